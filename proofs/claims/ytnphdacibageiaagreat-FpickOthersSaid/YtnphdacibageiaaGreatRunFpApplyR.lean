import Derived.Test.YtnphdacibageiaaGreatRunFpSortR
import Derived.Test.YtnphdacibageiaaGreatRunFpKnows
import Derived.Test.YtnphdacibageiaaGreatRunFpDoes
set_option linter.all false
set_option maxRecDepth 1000000
set_option maxHeartbeats 12800000
namespace Go.Proofs.YtnphdacibageiaaGreat
open Go.RowKit
def RetTk (E:Int) (M:List Sq) (w:World) (e:Ending) (w':World):Prop:=
 ∃(A:Option Addr) (c:Nat),e= .returned (.tuple #[.slice A M.length c, .int .i64 E])∧Rl w' A M∧Gr w w'
theorem ret_tup {A:Option Addr} {n m c:Nat} {v:Value} (h:n=m):Ending.returned (.tuple #[.slice A n c,v])= .returned (.tuple #[.slice A m c,v]):=by rw[h]
theorem rapply_no (nm text:ByteArray) (k:Vl) (A:Option Addr) (c:Nat) (L:List Sq) (w:World) (hf:(findF nm).isSome=false) :
  Calls Tryz.prog 12 #[.string nm, .agg #[.bool k.ok, .int .i64 k.n], .string text, .slice A L.length c] w (RetTk 9 [] w):=by
 have QK:=fun w=>knows_any nm w
 simp only[hf] at QK
 go_enter Tryz.func12,Tryz.ntmps12
 go_wp2_with fail
 refine (QK _).mono ?_;rintro e w1 ⟨rfl,hg1⟩
 go_wp2
 go_ret2
 exact ⟨none,0,rfl,Rd.nil _ _ _,Gr.trans (Gr.alloc (Gr.refl w) _) hg1⟩
theorem rapply_bad (nm text:ByteArray) (k:Vl) (A:Option Addr) (c:Nat) (L:List Sq) (w:World) (hf:(findF nm).isSome=true) (hok:okL L=false) (h20:L.length≤20) (hr:Rl w A L) (hv:Lie w L) :
  Calls Tryz.prog 12 #[.string nm, .agg #[.bool k.ok, .int .i64 k.n], .string text, .slice A L.length c] w (RetTk 1 [] w):=by
 have QK:=fun w=>knows_any nm w
 simp only[hf] at QK
 have HNO:Hid ((∀j (h:j<L.length),isS L[j].s=true)→False):=Lib.hid (fun h=>by
  have h1:okL L=true:=List.all_eq_true.2 (fun x hx=>by obtain ⟨j,hj,rfl⟩:=List.getElem_of_mem hx;exact h j hj)
  rw[h1] at hok;cases hok)
 have gb:Gr w (w.alloc (.cells #[.bool k.ok, .int .i64 k.n] 25)):=Gr.alloc (Gr.refl _) _
 have h20':(L.length:Int)≤20:=by omega
 clear hok hf
 go_enter Tryz.func12,Tryz.ntmps12
 go_wp2_with fail
 refine (QK _).mono ?_;rintro e w1 ⟨rfl,hg1⟩
 have gw1:=Gr.trans gb hg1
 clear QK gb hg1
 go_wp2
 go_loopw [10] (fun i wr=>∃j:Nat,j≤L.length∧i= .int .i64 j∧Gr w wr∧Hid (∀i (h:i<L.length),i<j→isS L[i].s=true)) (fun i _=>L.length-(intOf i).toNat)
 case atStart=>exact ⟨0,Nat.zero_le _,rfl,gw1,Lib.hid (fun i _ h=>absurd h (Nat.not_lt_zero _))⟩
 case round=>
  obtain ⟨j,hj,rfl,hgr,HA⟩:=hrel
  by_cases hlt:j<L.length
  ·
   obtain ⟨x,hx⟩:∃x,L[j]=x:=⟨_,rfl⟩
   obtain ⟨ad,rfl,hb,hx0,hx1,hx2,hx3,hx4⟩:=(hr.gr hgr).at hlt
   have hvx:=(hv _ (List.getElem_mem hlt)).gr hgr
   rw[hx] at hx0 hx1 hx2 hx3 hx4 hvx
   have QI:=fun w hr=>rsis_any x.s x.A x.c w hr
   cases hsx:isS x.s
   ·
    simp only[hsx] at QI
    clear hx hsx
    go_wp2_with fail
    refine (QI _ hvx).mono ?_;rintro e w5 ⟨rfl,hg⟩
    clear hx0 hx1 hx2 hx3 hx4
    go_wp2
    go_ret2
    exact ⟨none,0,rfl,Rd.nil _ _ _,Gr.trans hgr hg⟩
   ·
    have HA2:Hid (∀i (h:i<L.length),i<j+1→isS L[i].s=true):=Lib.hid (fun i h hi=>by
     by_cases e:i=j
     ·
      subst e;rw[hx];exact hsx
     ·
      exact HA.out i h (by omega))
    simp only[hsx] at QI
    clear hx hsx HA
    go_wp2_with fail
    refine (QI _ hvx).mono ?_;rintro e w5 ⟨rfl,hg⟩
    have gw5:=Gr.trans hgr hg
    clear hx0 hx1 hx2 hx3 hx4 hg
    go_wp2
    go_roundw
    case rel=>exact ⟨j+1,by omega,by go_num,gw5,HA2⟩
    case measure=>simp[intOf];omega
  ·
   exact (HNO.out (fun i h=>HA.out i h (by omega))).elim
theorem rapply_lim (nm text:ByteArray) (k:Vl) (A:Option Addr) (c:Nat) (L:List Sq) (w:World) (e0:(nm.toList==[103,114,101,112])=false) (e1:(nm.toList==[101,120,99,108,117,100,101])=false) (e2:(nm.toList==[108,105,109,105,116])=true) (hf:(findF nm).isSome=true) (hok:okL L=true) (h20:L.length≤20) (hcap:L.length≤c) (hle:∀x∈L,x.s.vals.length≤1000000) (hr:Rl w A L) (hv:Lie w L) :
  Calls Tryz.prog 12 #[.string nm, .agg #[.bool k.ok, .int .i64 k.n], .string text, .slice A L.length c] w (RetTk 0 (firstL (normV k) L) w):=by
 have QK:=fun w=>knows_any nm w
 simp only[hf] at QK
 have HOK:Hid (∀x∈L,isS x.s=true):=Lib.hid (fun x hx=>List.all_eq_true.1 hok x hx)
 have HLE:=Lib.hid hle
 have gb:Gr w (w.alloc (.cells #[.bool k.ok, .int .i64 k.n] 25)):=Gr.alloc (Gr.refl _) _
 have hVA:VAt (w.alloc (.cells #[.bool k.ok, .int .i64 k.n] 25)) w.heap.size k:=by
  refine ⟨?_,?_,?_⟩
  all_goals first|(go_simp;done)|(simp;done)
 have h20':(L.length:Int)≤20:=by omega
 clear hok hle hf
 go_enter Tryz.func12,Tryz.ntmps12
 go_wp2_with fail
 refine (QK _).mono ?_;rintro e w1 ⟨rfl,hg1⟩
 have gw1:=Gr.trans gb hg1
 have hVA1:=hVA.gr hg1
 clear QK gb hVA hg1
 go_wp2
 go_loopw [10] (fun i wr=>∃j:Nat,j≤L.length∧i= .int .i64 j∧Gr w wr∧VAt wr w.heap.size k) (fun i _=>L.length-(intOf i).toNat)
 case atStart=>exact ⟨0,Nat.zero_le _,rfl,gw1,hVA1⟩
 case round=>
  obtain ⟨j,hj,rfl,hgr,hVA⟩:=hrel
  by_cases hlt:j<L.length
  ·
   obtain ⟨x,hx⟩:∃x,L[j]=x:=⟨_,rfl⟩
   obtain ⟨ad,rfl,hb,hx0,hx1,hx2,hx3,hx4⟩:=(hr.gr hgr).at hlt
   have hsx:=HOK.out _ (List.getElem_mem hlt)
   have hvx:=(hv _ (List.getElem_mem hlt)).gr hgr
   rw[hx] at hx0 hx1 hx2 hx3 hx4 hsx hvx
   have QI:=fun w hr=>rsis_any x.s x.A x.c w hr
   simp only[hsx] at QI
   clear hx hsx
   go_wp2_with fail
   refine (QI _ hvx).mono ?_;rintro e w5 ⟨rfl,hg⟩
   have gw5:=Gr.trans hgr hg
   have hVA5:=hVA.gr hg
   clear hx0 hx1 hx2 hx3 hx4 hg
   go_wp2
   go_roundw
   case rel=>exact ⟨j+1,by omega,by go_num,gw5,hVA5⟩
   case measure=>simp[intOf];omega
  have hkk:j=L.length:=by omega
  subst hkk
  clear gw1 hVA1
  obtain ⟨k0,k1,kz⟩:=id hVA
  go_wp2_with fail
  refine (rfirst_any k A c L _ (by omega) hcap (hr.gr hgr)).mono ?_;rintro e w5 ⟨A5,c5,rfl,hc5,hr5,hg5⟩
  clear k0 k1 kz
  go_wp2
  go_ret2
  exact ⟨A5,c5,rfl,hr5,Gr.trans hgr hg5⟩
theorem rapply_s3 (nm text:ByteArray) (k:Vl) (A:Option Addr) (c:Nat) (L:List Sq) (w:World) (e0:(nm.toList==[103,114,101,112])=false) (e1:(nm.toList==[101,120,99,108,117,100,101])=false) (e2:(nm.toList==[108,105,109,105,116])=false) (e3:(nm.toList==[115,111,114,116,66,121,78,97,109,101])=true) (hf:(findF nm).isSome=true) (hok:okL L=true) (h20:L.length≤20) (hcap:L.length≤c) (hle:∀x∈L,x.s.vals.length≤1000000) (hr:Rl w A L) (hv:Lie w L) :
  Calls Tryz.prog 12 #[.string nm, .agg #[.bool k.ok, .int .i64 k.n], .string text, .slice A L.length c] w (RetTk 0 (sortR (fun a b=>aheadB nm a.s.name b.s.name (ofR (rowF nm).by_ a.s.vals) (ofR (rowF nm).by_ b.s.vals)) L) w):=by
 have QK:=fun w=>knows_any nm w
 simp only[hf] at QK
 have HOK:Hid (∀x∈L,isS x.s=true):=Lib.hid (fun x hx=>List.all_eq_true.1 hok x hx)
 have HLE:=Lib.hid hle
 have gb:Gr w (w.alloc (.cells #[.bool k.ok, .int .i64 k.n] 25)):=Gr.alloc (Gr.refl _) _
 have hVA:VAt (w.alloc (.cells #[.bool k.ok, .int .i64 k.n] 25)) w.heap.size k:=by
  refine ⟨?_,?_,?_⟩
  all_goals first|(go_simp;done)|(simp;done)
 have h20':(L.length:Int)≤20:=by omega
 clear hok hle hf
 go_enter Tryz.func12,Tryz.ntmps12
 go_wp2_with fail
 refine (QK _).mono ?_;rintro e w1 ⟨rfl,hg1⟩
 have gw1:=Gr.trans gb hg1
 have hVA1:=hVA.gr hg1
 clear QK gb hVA hg1
 go_wp2
 go_loopw [10] (fun i wr=>∃j:Nat,j≤L.length∧i= .int .i64 j∧Gr w wr∧VAt wr w.heap.size k) (fun i _=>L.length-(intOf i).toNat)
 case atStart=>exact ⟨0,Nat.zero_le _,rfl,gw1,hVA1⟩
 case round=>
  obtain ⟨j,hj,rfl,hgr,hVA⟩:=hrel
  by_cases hlt:j<L.length
  ·
   obtain ⟨x,hx⟩:∃x,L[j]=x:=⟨_,rfl⟩
   obtain ⟨ad,rfl,hb,hx0,hx1,hx2,hx3,hx4⟩:=(hr.gr hgr).at hlt
   have hsx:=HOK.out _ (List.getElem_mem hlt)
   have hvx:=(hv _ (List.getElem_mem hlt)).gr hgr
   rw[hx] at hx0 hx1 hx2 hx3 hx4 hsx hvx
   have QI:=fun w hr=>rsis_any x.s x.A x.c w hr
   simp only[hsx] at QI
   clear hx hsx
   go_wp2_with fail
   refine (QI _ hvx).mono ?_;rintro e w5 ⟨rfl,hg⟩
   have gw5:=Gr.trans hgr hg
   have hVA5:=hVA.gr hg
   clear hx0 hx1 hx2 hx3 hx4 hg
   go_wp2
   go_roundw
   case rel=>exact ⟨j+1,by omega,by go_num,gw5,hVA5⟩
   case measure=>simp[intOf];omega
  have hkk:j=L.length:=by omega
  subst hkk
  clear gw1 hVA1
  go_wp2_with fail
  refine (rsorted_any nm A c L _ h20 HLE.out (hr.gr hgr) (hv.gr hgr)).mono ?_;rintro e w5 ⟨A5,c5,rfl,hc5,hr5,hg5⟩
  go_wp2
  go_ret2
  exact ⟨A5,c5,rfl,hr5,Gr.trans hgr hg5⟩
theorem rapply_s4 (nm text:ByteArray) (k:Vl) (A:Option Addr) (c:Nat) (L:List Sq) (w:World) (e0:(nm.toList==[103,114,101,112])=false) (e1:(nm.toList==[101,120,99,108,117,100,101])=false) (e2:(nm.toList==[108,105,109,105,116])=false) (e3:(nm.toList==[115,111,114,116,66,121,78,97,109,101])=false) (e4:(nm.toList==[115,111,114,116,66,121,77,97,120,105,109,97])=true) (hf:(findF nm).isSome=true) (hok:okL L=true) (h20:L.length≤20) (hcap:L.length≤c) (hle:∀x∈L,x.s.vals.length≤1000000) (hr:Rl w A L) (hv:Lie w L) :
  Calls Tryz.prog 12 #[.string nm, .agg #[.bool k.ok, .int .i64 k.n], .string text, .slice A L.length c] w (RetTk 0 (sortR (fun a b=>aheadB nm a.s.name b.s.name (ofR (rowF nm).by_ a.s.vals) (ofR (rowF nm).by_ b.s.vals)) L) w):=by
 have QK:=fun w=>knows_any nm w
 simp only[hf] at QK
 have HOK:Hid (∀x∈L,isS x.s=true):=Lib.hid (fun x hx=>List.all_eq_true.1 hok x hx)
 have HLE:=Lib.hid hle
 have gb:Gr w (w.alloc (.cells #[.bool k.ok, .int .i64 k.n] 25)):=Gr.alloc (Gr.refl _) _
 have hVA:VAt (w.alloc (.cells #[.bool k.ok, .int .i64 k.n] 25)) w.heap.size k:=by
  refine ⟨?_,?_,?_⟩
  all_goals first|(go_simp;done)|(simp;done)
 have h20':(L.length:Int)≤20:=by omega
 clear hok hle hf
 go_enter Tryz.func12,Tryz.ntmps12
 go_wp2_with fail
 refine (QK _).mono ?_;rintro e w1 ⟨rfl,hg1⟩
 have gw1:=Gr.trans gb hg1
 have hVA1:=hVA.gr hg1
 clear QK gb hVA hg1
 go_wp2
 go_loopw [10] (fun i wr=>∃j:Nat,j≤L.length∧i= .int .i64 j∧Gr w wr∧VAt wr w.heap.size k) (fun i _=>L.length-(intOf i).toNat)
 case atStart=>exact ⟨0,Nat.zero_le _,rfl,gw1,hVA1⟩
 case round=>
  obtain ⟨j,hj,rfl,hgr,hVA⟩:=hrel
  by_cases hlt:j<L.length
  ·
   obtain ⟨x,hx⟩:∃x,L[j]=x:=⟨_,rfl⟩
   obtain ⟨ad,rfl,hb,hx0,hx1,hx2,hx3,hx4⟩:=(hr.gr hgr).at hlt
   have hsx:=HOK.out _ (List.getElem_mem hlt)
   have hvx:=(hv _ (List.getElem_mem hlt)).gr hgr
   rw[hx] at hx0 hx1 hx2 hx3 hx4 hsx hvx
   have QI:=fun w hr=>rsis_any x.s x.A x.c w hr
   simp only[hsx] at QI
   clear hx hsx
   go_wp2_with fail
   refine (QI _ hvx).mono ?_;rintro e w5 ⟨rfl,hg⟩
   have gw5:=Gr.trans hgr hg
   have hVA5:=hVA.gr hg
   clear hx0 hx1 hx2 hx3 hx4 hg
   go_wp2
   go_roundw
   case rel=>exact ⟨j+1,by omega,by go_num,gw5,hVA5⟩
   case measure=>simp[intOf];omega
  have hkk:j=L.length:=by omega
  subst hkk
  clear gw1 hVA1
  go_wp2_with fail
  refine (rsorted_any nm A c L _ h20 HLE.out (hr.gr hgr) (hv.gr hgr)).mono ?_;rintro e w5 ⟨A5,c5,rfl,hc5,hr5,hg5⟩
  go_wp2
  go_ret2
  exact ⟨A5,c5,rfl,hr5,Gr.trans hgr hg5⟩
theorem rapply_s5 (nm text:ByteArray) (k:Vl) (A:Option Addr) (c:Nat) (L:List Sq) (w:World) (e0:(nm.toList==[103,114,101,112])=false) (e1:(nm.toList==[101,120,99,108,117,100,101])=false) (e2:(nm.toList==[108,105,109,105,116])=false) (e3:(nm.toList==[115,111,114,116,66,121,78,97,109,101])=false) (e4:(nm.toList==[115,111,114,116,66,121,77,97,120,105,109,97])=false) (e5:(nm.toList==[115,111,114,116,66,121,77,105,110,105,109,97])=true) (hf:(findF nm).isSome=true) (hok:okL L=true) (h20:L.length≤20) (hcap:L.length≤c) (hle:∀x∈L,x.s.vals.length≤1000000) (hr:Rl w A L) (hv:Lie w L) :
  Calls Tryz.prog 12 #[.string nm, .agg #[.bool k.ok, .int .i64 k.n], .string text, .slice A L.length c] w (RetTk 0 (sortR (fun a b=>aheadB nm a.s.name b.s.name (ofR (rowF nm).by_ a.s.vals) (ofR (rowF nm).by_ b.s.vals)) L) w):=by
 have QK:=fun w=>knows_any nm w
 simp only[hf] at QK
 have HOK:Hid (∀x∈L,isS x.s=true):=Lib.hid (fun x hx=>List.all_eq_true.1 hok x hx)
 have HLE:=Lib.hid hle
 have gb:Gr w (w.alloc (.cells #[.bool k.ok, .int .i64 k.n] 25)):=Gr.alloc (Gr.refl _) _
 have hVA:VAt (w.alloc (.cells #[.bool k.ok, .int .i64 k.n] 25)) w.heap.size k:=by
  refine ⟨?_,?_,?_⟩
  all_goals first|(go_simp;done)|(simp;done)
 have h20':(L.length:Int)≤20:=by omega
 clear hok hle hf
 go_enter Tryz.func12,Tryz.ntmps12
 go_wp2_with fail
 refine (QK _).mono ?_;rintro e w1 ⟨rfl,hg1⟩
 have gw1:=Gr.trans gb hg1
 have hVA1:=hVA.gr hg1
 clear QK gb hVA hg1
 go_wp2
 go_loopw [10] (fun i wr=>∃j:Nat,j≤L.length∧i= .int .i64 j∧Gr w wr∧VAt wr w.heap.size k) (fun i _=>L.length-(intOf i).toNat)
 case atStart=>exact ⟨0,Nat.zero_le _,rfl,gw1,hVA1⟩
 case round=>
  obtain ⟨j,hj,rfl,hgr,hVA⟩:=hrel
  by_cases hlt:j<L.length
  ·
   obtain ⟨x,hx⟩:∃x,L[j]=x:=⟨_,rfl⟩
   obtain ⟨ad,rfl,hb,hx0,hx1,hx2,hx3,hx4⟩:=(hr.gr hgr).at hlt
   have hsx:=HOK.out _ (List.getElem_mem hlt)
   have hvx:=(hv _ (List.getElem_mem hlt)).gr hgr
   rw[hx] at hx0 hx1 hx2 hx3 hx4 hsx hvx
   have QI:=fun w hr=>rsis_any x.s x.A x.c w hr
   simp only[hsx] at QI
   clear hx hsx
   go_wp2_with fail
   refine (QI _ hvx).mono ?_;rintro e w5 ⟨rfl,hg⟩
   have gw5:=Gr.trans hgr hg
   have hVA5:=hVA.gr hg
   clear hx0 hx1 hx2 hx3 hx4 hg
   go_wp2
   go_roundw
   case rel=>exact ⟨j+1,by omega,by go_num,gw5,hVA5⟩
   case measure=>simp[intOf];omega
  have hkk:j=L.length:=by omega
  subst hkk
  clear gw1 hVA1
  go_wp2_with fail
  refine (rsorted_any nm A c L _ h20 HLE.out (hr.gr hgr) (hv.gr hgr)).mono ?_;rintro e w5 ⟨A5,c5,rfl,hc5,hr5,hg5⟩
  go_wp2
  go_ret2
  exact ⟨A5,c5,rfl,hr5,Gr.trans hgr hg5⟩
theorem rapply_s6 (nm text:ByteArray) (k:Vl) (A:Option Addr) (c:Nat) (L:List Sq) (w:World) (e0:(nm.toList==[103,114,101,112])=false) (e1:(nm.toList==[101,120,99,108,117,100,101])=false) (e2:(nm.toList==[108,105,109,105,116])=false) (e3:(nm.toList==[115,111,114,116,66,121,78,97,109,101])=false) (e4:(nm.toList==[115,111,114,116,66,121,77,97,120,105,109,97])=false) (e5:(nm.toList==[115,111,114,116,66,121,77,105,110,105,109,97])=false) (e6:(nm.toList==[115,111,114,116,66,121,84,111,116,97,108])=true) (hf:(findF nm).isSome=true) (hok:okL L=true) (h20:L.length≤20) (hcap:L.length≤c) (hle:∀x∈L,x.s.vals.length≤1000000) (hr:Rl w A L) (hv:Lie w L) :
  Calls Tryz.prog 12 #[.string nm, .agg #[.bool k.ok, .int .i64 k.n], .string text, .slice A L.length c] w (RetTk 0 (sortR (fun a b=>aheadB nm a.s.name b.s.name (ofR (rowF nm).by_ a.s.vals) (ofR (rowF nm).by_ b.s.vals)) L) w):=by
 have QK:=fun w=>knows_any nm w
 simp only[hf] at QK
 have HOK:Hid (∀x∈L,isS x.s=true):=Lib.hid (fun x hx=>List.all_eq_true.1 hok x hx)
 have HLE:=Lib.hid hle
 have gb:Gr w (w.alloc (.cells #[.bool k.ok, .int .i64 k.n] 25)):=Gr.alloc (Gr.refl _) _
 have hVA:VAt (w.alloc (.cells #[.bool k.ok, .int .i64 k.n] 25)) w.heap.size k:=by
  refine ⟨?_,?_,?_⟩
  all_goals first|(go_simp;done)|(simp;done)
 have h20':(L.length:Int)≤20:=by omega
 clear hok hle hf
 go_enter Tryz.func12,Tryz.ntmps12
 go_wp2_with fail
 refine (QK _).mono ?_;rintro e w1 ⟨rfl,hg1⟩
 have gw1:=Gr.trans gb hg1
 have hVA1:=hVA.gr hg1
 clear QK gb hVA hg1
 go_wp2
 go_loopw [10] (fun i wr=>∃j:Nat,j≤L.length∧i= .int .i64 j∧Gr w wr∧VAt wr w.heap.size k) (fun i _=>L.length-(intOf i).toNat)
 case atStart=>exact ⟨0,Nat.zero_le _,rfl,gw1,hVA1⟩
 case round=>
  obtain ⟨j,hj,rfl,hgr,hVA⟩:=hrel
  by_cases hlt:j<L.length
  ·
   obtain ⟨x,hx⟩:∃x,L[j]=x:=⟨_,rfl⟩
   obtain ⟨ad,rfl,hb,hx0,hx1,hx2,hx3,hx4⟩:=(hr.gr hgr).at hlt
   have hsx:=HOK.out _ (List.getElem_mem hlt)
   have hvx:=(hv _ (List.getElem_mem hlt)).gr hgr
   rw[hx] at hx0 hx1 hx2 hx3 hx4 hsx hvx
   have QI:=fun w hr=>rsis_any x.s x.A x.c w hr
   simp only[hsx] at QI
   clear hx hsx
   go_wp2_with fail
   refine (QI _ hvx).mono ?_;rintro e w5 ⟨rfl,hg⟩
   have gw5:=Gr.trans hgr hg
   have hVA5:=hVA.gr hg
   clear hx0 hx1 hx2 hx3 hx4 hg
   go_wp2
   go_roundw
   case rel=>exact ⟨j+1,by omega,by go_num,gw5,hVA5⟩
   case measure=>simp[intOf];omega
  have hkk:j=L.length:=by omega
  subst hkk
  clear gw1 hVA1
  go_wp2_with fail
  refine (rsorted_any nm A c L _ h20 HLE.out (hr.gr hgr) (hv.gr hgr)).mono ?_;rintro e w5 ⟨A5,c5,rfl,hc5,hr5,hg5⟩
  go_wp2
  go_ret2
  exact ⟨A5,c5,rfl,hr5,Gr.trans hgr hg5⟩
theorem rapply_p7 (nm text:ByteArray) (k:Vl) (A:Option Addr) (c:Nat) (L:List Sq) (w:World) (e0:(nm.toList==[103,114,101,112])=false) (e1:(nm.toList==[101,120,99,108,117,100,101])=false) (e2:(nm.toList==[108,105,109,105,116])=false) (e3:(nm.toList==[115,111,114,116,66,121,78,97,109,101])=false) (e4:(nm.toList==[115,111,114,116,66,121,77,97,120,105,109,97])=false) (e5:(nm.toList==[115,111,114,116,66,121,77,105,110,105,109,97])=false) (e6:(nm.toList==[115,111,114,116,66,121,84,111,116,97,108])=false) (e7:(nm.toList==[104,105,103,104,101,115,116,77,97,120])=true) (hf:(findF nm).isSome=true) (hok:okL L=true) (h20:L.length≤20) (hcap:L.length≤c) (hle:∀x∈L,x.s.vals.length≤1000000) (hr:Rl w A L) (hv:Lie w L) :
  Calls Tryz.prog 12 #[.string nm, .agg #[.bool k.ok, .int .i64 k.n], .string text, .slice A L.length c] w (RetTk 0 (firstL (normV k) (sortR (fun a b=>aheadB nm a.s.name b.s.name (ofR (rowF nm).by_ a.s.vals) (ofR (rowF nm).by_ b.s.vals)) L)) w):=by
 have QK:=fun w=>knows_any nm w
 simp only[hf] at QK
 have HOK:Hid (∀x∈L,isS x.s=true):=Lib.hid (fun x hx=>List.all_eq_true.1 hok x hx)
 have HLE:=Lib.hid hle
 have gb:Gr w (w.alloc (.cells #[.bool k.ok, .int .i64 k.n] 25)):=Gr.alloc (Gr.refl _) _
 have hVA:VAt (w.alloc (.cells #[.bool k.ok, .int .i64 k.n] 25)) w.heap.size k:=by
  refine ⟨?_,?_,?_⟩
  all_goals first|(go_simp;done)|(simp;done)
 have h20':(L.length:Int)≤20:=by omega
 clear hok hle hf
 go_enter Tryz.func12,Tryz.ntmps12
 go_wp2_with fail
 refine (QK _).mono ?_;rintro e w1 ⟨rfl,hg1⟩
 have gw1:=Gr.trans gb hg1
 have hVA1:=hVA.gr hg1
 clear QK gb hVA hg1
 go_wp2
 go_loopw [10] (fun i wr=>∃j:Nat,j≤L.length∧i= .int .i64 j∧Gr w wr∧VAt wr w.heap.size k) (fun i _=>L.length-(intOf i).toNat)
 case atStart=>exact ⟨0,Nat.zero_le _,rfl,gw1,hVA1⟩
 case round=>
  obtain ⟨j,hj,rfl,hgr,hVA⟩:=hrel
  by_cases hlt:j<L.length
  ·
   obtain ⟨x,hx⟩:∃x,L[j]=x:=⟨_,rfl⟩
   obtain ⟨ad,rfl,hb,hx0,hx1,hx2,hx3,hx4⟩:=(hr.gr hgr).at hlt
   have hsx:=HOK.out _ (List.getElem_mem hlt)
   have hvx:=(hv _ (List.getElem_mem hlt)).gr hgr
   rw[hx] at hx0 hx1 hx2 hx3 hx4 hsx hvx
   have QI:=fun w hr=>rsis_any x.s x.A x.c w hr
   simp only[hsx] at QI
   clear hx hsx
   go_wp2_with fail
   refine (QI _ hvx).mono ?_;rintro e w5 ⟨rfl,hg⟩
   have gw5:=Gr.trans hgr hg
   have hVA5:=hVA.gr hg
   clear hx0 hx1 hx2 hx3 hx4 hg
   go_wp2
   go_roundw
   case rel=>exact ⟨j+1,by omega,by go_num,gw5,hVA5⟩
   case measure=>simp[intOf];omega
  have hkk:j=L.length:=by omega
  subst hkk
  clear gw1 hVA1
  go_wp2
  have hS0:VAt wr.drew w.heap.size k:=hVA.gr (Gr.drew (Gr.refl _))
  have gV0:Gr w wr.drew:=Gr.drew hgr
  obtain ⟨V,hV⟩:∃V,V=wr.drew:=⟨_,rfl⟩
  refine wp_region_Z 6 (fun W=>VAt W w.heap.size k) (by kernel_rfl) ?_
  rw[←hV] at hS0 gV0 ⊢
  clear hV hVA hgr
  refine zt 0 rfl hS0 (fun W hS=>by obtain ⟨k0,k1,kz⟩:=hS;go_simp;rfl) ?_
  refine zt 1 rfl hS0 (fun W hS=>by go_simp;rfl) ?_
  refine zt 2 rfl hS0 (fun W hS=>by go_simp;rfl) ?_
  refine zs 3 rfl (fun K hK=>?_)
  go_simp
  refine (rsorted_any nm A c L _ h20 HLE.out (hr.gr gV0) (hv.gr gV0)).mono ?_;rintro e w5 ⟨A5,c5,rfl,hc5,hr5,hg5⟩
  have gV5:=Gr.trans gV0 hg5
  have hS5:=hS0.gr hg5
  go_wp2_with fail
  refine hK.out _ _ (fun hnz=>?s67) (fun _=>?r67)
  case s67=>exact hS5
  clear hK K
  try simp only[Pu]
  refine zs 4 rfl (fun K hK=>?_)
  go_simp
  refine (rfirst_any k A5 c5 _ _ (by rw[sortR_len];omega) hc5 hr5).mono ?_;rintro e w6 ⟨A6,c6,rfl,hc6,hr6,hg6⟩
  have gV6:=Gr.trans gV5 hg6
  have hS6:=hS5.gr hg6
  go_wp2_with fail
  refine hK.out _ _ (fun hnz=>?s68) (fun _=>?r68)
  case s68=>exact hS6
  clear hK K
  try simp only[Pu]
  refine zs 5 rfl (fun K hK=>?_)
  go_simp
  refine hK.out _ _ (fun hnz=>?s69) (fun _=>?r69)
  case s69=>exact hS6
  clear hK K
  try simp only[Pu]
  refine zs 6 rfl (fun K hK=>?_)
  go_simp
  refine hK.out _ _ (fun hnz=>?s70) (fun _=>?r70)
  case s70=>exact hS6
  clear hK K
  try simp only[Pu]
  refine wpAnyZ_done (by kernel_rfl) ?_ _
  clear hS0 hS5 hS6
  go_wp2
  go_ret2
  exact ⟨A6,c6,rfl,hr6,gV6⟩
theorem rapply_p8 (nm text:ByteArray) (k:Vl) (A:Option Addr) (c:Nat) (L:List Sq) (w:World) (e0:(nm.toList==[103,114,101,112])=false) (e1:(nm.toList==[101,120,99,108,117,100,101])=false) (e2:(nm.toList==[108,105,109,105,116])=false) (e3:(nm.toList==[115,111,114,116,66,121,78,97,109,101])=false) (e4:(nm.toList==[115,111,114,116,66,121,77,97,120,105,109,97])=false) (e5:(nm.toList==[115,111,114,116,66,121,77,105,110,105,109,97])=false) (e6:(nm.toList==[115,111,114,116,66,121,84,111,116,97,108])=false) (e7:(nm.toList==[104,105,103,104,101,115,116,77,97,120])=false) (e8:(nm.toList==[104,105,103,104,101,115,116,65,118,101,114,97,103,101])=true) (hf:(findF nm).isSome=true) (hok:okL L=true) (h20:L.length≤20) (hcap:L.length≤c) (hle:∀x∈L,x.s.vals.length≤1000000) (hr:Rl w A L) (hv:Lie w L) :
  Calls Tryz.prog 12 #[.string nm, .agg #[.bool k.ok, .int .i64 k.n], .string text, .slice A L.length c] w (RetTk 0 (firstL (normV k) (sortR (fun a b=>aheadB nm a.s.name b.s.name (ofR (rowF nm).by_ a.s.vals) (ofR (rowF nm).by_ b.s.vals)) L)) w):=by
 have QK:=fun w=>knows_any nm w
 simp only[hf] at QK
 have HOK:Hid (∀x∈L,isS x.s=true):=Lib.hid (fun x hx=>List.all_eq_true.1 hok x hx)
 have HLE:=Lib.hid hle
 have gb:Gr w (w.alloc (.cells #[.bool k.ok, .int .i64 k.n] 25)):=Gr.alloc (Gr.refl _) _
 have hVA:VAt (w.alloc (.cells #[.bool k.ok, .int .i64 k.n] 25)) w.heap.size k:=by
  refine ⟨?_,?_,?_⟩
  all_goals first|(go_simp;done)|(simp;done)
 have h20':(L.length:Int)≤20:=by omega
 clear hok hle hf
 go_enter Tryz.func12,Tryz.ntmps12
 go_wp2_with fail
 refine (QK _).mono ?_;rintro e w1 ⟨rfl,hg1⟩
 have gw1:=Gr.trans gb hg1
 have hVA1:=hVA.gr hg1
 clear QK gb hVA hg1
 go_wp2
 go_loopw [10] (fun i wr=>∃j:Nat,j≤L.length∧i= .int .i64 j∧Gr w wr∧VAt wr w.heap.size k) (fun i _=>L.length-(intOf i).toNat)
 case atStart=>exact ⟨0,Nat.zero_le _,rfl,gw1,hVA1⟩
 case round=>
  obtain ⟨j,hj,rfl,hgr,hVA⟩:=hrel
  by_cases hlt:j<L.length
  ·
   obtain ⟨x,hx⟩:∃x,L[j]=x:=⟨_,rfl⟩
   obtain ⟨ad,rfl,hb,hx0,hx1,hx2,hx3,hx4⟩:=(hr.gr hgr).at hlt
   have hsx:=HOK.out _ (List.getElem_mem hlt)
   have hvx:=(hv _ (List.getElem_mem hlt)).gr hgr
   rw[hx] at hx0 hx1 hx2 hx3 hx4 hsx hvx
   have QI:=fun w hr=>rsis_any x.s x.A x.c w hr
   simp only[hsx] at QI
   clear hx hsx
   go_wp2_with fail
   refine (QI _ hvx).mono ?_;rintro e w5 ⟨rfl,hg⟩
   have gw5:=Gr.trans hgr hg
   have hVA5:=hVA.gr hg
   clear hx0 hx1 hx2 hx3 hx4 hg
   go_wp2
   go_roundw
   case rel=>exact ⟨j+1,by omega,by go_num,gw5,hVA5⟩
   case measure=>simp[intOf];omega
  have hkk:j=L.length:=by omega
  subst hkk
  clear gw1 hVA1
  go_wp2
  have hS0:VAt wr.drew w.heap.size k:=hVA.gr (Gr.drew (Gr.refl _))
  have gV0:Gr w wr.drew:=Gr.drew hgr
  obtain ⟨V,hV⟩:∃V,V=wr.drew:=⟨_,rfl⟩
  refine wp_region_Z 6 (fun W=>VAt W w.heap.size k) (by kernel_rfl) ?_
  rw[←hV] at hS0 gV0 ⊢
  clear hV hVA hgr
  refine zt 0 rfl hS0 (fun W hS=>by obtain ⟨k0,k1,kz⟩:=hS;go_simp;rfl) ?_
  refine zt 1 rfl hS0 (fun W hS=>by go_simp;rfl) ?_
  refine zt 2 rfl hS0 (fun W hS=>by go_simp;rfl) ?_
  refine zs 3 rfl (fun K hK=>?_)
  go_simp
  refine (rsorted_any nm A c L _ h20 HLE.out (hr.gr gV0) (hv.gr gV0)).mono ?_;rintro e w5 ⟨A5,c5,rfl,hc5,hr5,hg5⟩
  have gV5:=Gr.trans gV0 hg5
  have hS5:=hS0.gr hg5
  go_wp2_with fail
  refine hK.out _ _ (fun hnz=>?s74) (fun _=>?r74)
  case s74=>exact hS5
  clear hK K
  try simp only[Pu]
  refine zs 4 rfl (fun K hK=>?_)
  go_simp
  refine (rfirst_any k A5 c5 _ _ (by rw[sortR_len];omega) hc5 hr5).mono ?_;rintro e w6 ⟨A6,c6,rfl,hc6,hr6,hg6⟩
  have gV6:=Gr.trans gV5 hg6
  have hS6:=hS5.gr hg6
  go_wp2_with fail
  refine hK.out _ _ (fun hnz=>?s75) (fun _=>?r75)
  case s75=>exact hS6
  clear hK K
  try simp only[Pu]
  refine zs 5 rfl (fun K hK=>?_)
  go_simp
  refine hK.out _ _ (fun hnz=>?s76) (fun _=>?r76)
  case s76=>exact hS6
  clear hK K
  try simp only[Pu]
  refine zs 6 rfl (fun K hK=>?_)
  go_simp
  refine hK.out _ _ (fun hnz=>?s77) (fun _=>?r77)
  case s77=>exact hS6
  clear hK K
  try simp only[Pu]
  refine wpAnyZ_done (by kernel_rfl) ?_ _
  clear hS0 hS5 hS6
  go_wp2
  go_ret2
  exact ⟨A6,c6,rfl,hr6,gV6⟩
theorem rapply_p9 (nm text:ByteArray) (k:Vl) (A:Option Addr) (c:Nat) (L:List Sq) (w:World) (e0:(nm.toList==[103,114,101,112])=false) (e1:(nm.toList==[101,120,99,108,117,100,101])=false) (e2:(nm.toList==[108,105,109,105,116])=false) (e3:(nm.toList==[115,111,114,116,66,121,78,97,109,101])=false) (e4:(nm.toList==[115,111,114,116,66,121,77,97,120,105,109,97])=false) (e5:(nm.toList==[115,111,114,116,66,121,77,105,110,105,109,97])=false) (e6:(nm.toList==[115,111,114,116,66,121,84,111,116,97,108])=false) (e7:(nm.toList==[104,105,103,104,101,115,116,77,97,120])=false) (e8:(nm.toList==[104,105,103,104,101,115,116,65,118,101,114,97,103,101])=false) (e9:(nm.toList==[104,105,103,104,101,115,116,67,117,114,114,101,110,116])=true) (hf:(findF nm).isSome=true) (hok:okL L=true) (h20:L.length≤20) (hcap:L.length≤c) (hle:∀x∈L,x.s.vals.length≤1000000) (hr:Rl w A L) (hv:Lie w L) :
  Calls Tryz.prog 12 #[.string nm, .agg #[.bool k.ok, .int .i64 k.n], .string text, .slice A L.length c] w (RetTk 0 (firstL (normV k) (sortR (fun a b=>aheadB nm a.s.name b.s.name (ofR (rowF nm).by_ a.s.vals) (ofR (rowF nm).by_ b.s.vals)) L)) w):=by
 have QK:=fun w=>knows_any nm w
 simp only[hf] at QK
 have HOK:Hid (∀x∈L,isS x.s=true):=Lib.hid (fun x hx=>List.all_eq_true.1 hok x hx)
 have HLE:=Lib.hid hle
 have gb:Gr w (w.alloc (.cells #[.bool k.ok, .int .i64 k.n] 25)):=Gr.alloc (Gr.refl _) _
 have hVA:VAt (w.alloc (.cells #[.bool k.ok, .int .i64 k.n] 25)) w.heap.size k:=by
  refine ⟨?_,?_,?_⟩
  all_goals first|(go_simp;done)|(simp;done)
 have h20':(L.length:Int)≤20:=by omega
 clear hok hle hf
 go_enter Tryz.func12,Tryz.ntmps12
 go_wp2_with fail
 refine (QK _).mono ?_;rintro e w1 ⟨rfl,hg1⟩
 have gw1:=Gr.trans gb hg1
 have hVA1:=hVA.gr hg1
 clear QK gb hVA hg1
 go_wp2
 go_loopw [10] (fun i wr=>∃j:Nat,j≤L.length∧i= .int .i64 j∧Gr w wr∧VAt wr w.heap.size k) (fun i _=>L.length-(intOf i).toNat)
 case atStart=>exact ⟨0,Nat.zero_le _,rfl,gw1,hVA1⟩
 case round=>
  obtain ⟨j,hj,rfl,hgr,hVA⟩:=hrel
  by_cases hlt:j<L.length
  ·
   obtain ⟨x,hx⟩:∃x,L[j]=x:=⟨_,rfl⟩
   obtain ⟨ad,rfl,hb,hx0,hx1,hx2,hx3,hx4⟩:=(hr.gr hgr).at hlt
   have hsx:=HOK.out _ (List.getElem_mem hlt)
   have hvx:=(hv _ (List.getElem_mem hlt)).gr hgr
   rw[hx] at hx0 hx1 hx2 hx3 hx4 hsx hvx
   have QI:=fun w hr=>rsis_any x.s x.A x.c w hr
   simp only[hsx] at QI
   clear hx hsx
   go_wp2_with fail
   refine (QI _ hvx).mono ?_;rintro e w5 ⟨rfl,hg⟩
   have gw5:=Gr.trans hgr hg
   have hVA5:=hVA.gr hg
   clear hx0 hx1 hx2 hx3 hx4 hg
   go_wp2
   go_roundw
   case rel=>exact ⟨j+1,by omega,by go_num,gw5,hVA5⟩
   case measure=>simp[intOf];omega
  have hkk:j=L.length:=by omega
  subst hkk
  clear gw1 hVA1
  go_wp2
  have hS0:VAt wr.drew w.heap.size k:=hVA.gr (Gr.drew (Gr.refl _))
  have gV0:Gr w wr.drew:=Gr.drew hgr
  obtain ⟨V,hV⟩:∃V,V=wr.drew:=⟨_,rfl⟩
  refine wp_region_Z 6 (fun W=>VAt W w.heap.size k) (by kernel_rfl) ?_
  rw[←hV] at hS0 gV0 ⊢
  clear hV hVA hgr
  refine zt 0 rfl hS0 (fun W hS=>by obtain ⟨k0,k1,kz⟩:=hS;go_simp;rfl) ?_
  refine zt 1 rfl hS0 (fun W hS=>by go_simp;rfl) ?_
  refine zt 2 rfl hS0 (fun W hS=>by go_simp;rfl) ?_
  refine zs 3 rfl (fun K hK=>?_)
  go_simp
  refine (rsorted_any nm A c L _ h20 HLE.out (hr.gr gV0) (hv.gr gV0)).mono ?_;rintro e w5 ⟨A5,c5,rfl,hc5,hr5,hg5⟩
  have gV5:=Gr.trans gV0 hg5
  have hS5:=hS0.gr hg5
  go_wp2_with fail
  refine hK.out _ _ (fun hnz=>?s81) (fun _=>?r81)
  case s81=>exact hS5
  clear hK K
  try simp only[Pu]
  refine zs 4 rfl (fun K hK=>?_)
  go_simp
  refine (rfirst_any k A5 c5 _ _ (by rw[sortR_len];omega) hc5 hr5).mono ?_;rintro e w6 ⟨A6,c6,rfl,hc6,hr6,hg6⟩
  have gV6:=Gr.trans gV5 hg6
  have hS6:=hS5.gr hg6
  go_wp2_with fail
  refine hK.out _ _ (fun hnz=>?s82) (fun _=>?r82)
  case s82=>exact hS6
  clear hK K
  try simp only[Pu]
  refine zs 5 rfl (fun K hK=>?_)
  go_simp
  refine hK.out _ _ (fun hnz=>?s83) (fun _=>?r83)
  case s83=>exact hS6
  clear hK K
  try simp only[Pu]
  refine zs 6 rfl (fun K hK=>?_)
  go_simp
  refine hK.out _ _ (fun hnz=>?s84) (fun _=>?r84)
  case s84=>exact hS6
  clear hK K
  try simp only[Pu]
  refine wpAnyZ_done (by kernel_rfl) ?_ _
  clear hS0 hS5 hS6
  go_wp2
  go_ret2
  exact ⟨A6,c6,rfl,hr6,gV6⟩
theorem rapply_p10 (nm text:ByteArray) (k:Vl) (A:Option Addr) (c:Nat) (L:List Sq) (w:World) (e0:(nm.toList==[103,114,101,112])=false) (e1:(nm.toList==[101,120,99,108,117,100,101])=false) (e2:(nm.toList==[108,105,109,105,116])=false) (e3:(nm.toList==[115,111,114,116,66,121,78,97,109,101])=false) (e4:(nm.toList==[115,111,114,116,66,121,77,97,120,105,109,97])=false) (e5:(nm.toList==[115,111,114,116,66,121,77,105,110,105,109,97])=false) (e6:(nm.toList==[115,111,114,116,66,121,84,111,116,97,108])=false) (e7:(nm.toList==[104,105,103,104,101,115,116,77,97,120])=false) (e8:(nm.toList==[104,105,103,104,101,115,116,65,118,101,114,97,103,101])=false) (e9:(nm.toList==[104,105,103,104,101,115,116,67,117,114,114,101,110,116])=false) (e10:(nm.toList==[108,111,119,101,115,116,65,118,101,114,97,103,101])=true) (hf:(findF nm).isSome=true) (hok:okL L=true) (h20:L.length≤20) (hcap:L.length≤c) (hle:∀x∈L,x.s.vals.length≤1000000) (hr:Rl w A L) (hv:Lie w L) :
  Calls Tryz.prog 12 #[.string nm, .agg #[.bool k.ok, .int .i64 k.n], .string text, .slice A L.length c] w (RetTk 0 (firstL (normV k) (sortR (fun a b=>aheadB nm a.s.name b.s.name (ofR (rowF nm).by_ a.s.vals) (ofR (rowF nm).by_ b.s.vals)) L)) w):=by
 have QK:=fun w=>knows_any nm w
 simp only[hf] at QK
 have HOK:Hid (∀x∈L,isS x.s=true):=Lib.hid (fun x hx=>List.all_eq_true.1 hok x hx)
 have HLE:=Lib.hid hle
 have gb:Gr w (w.alloc (.cells #[.bool k.ok, .int .i64 k.n] 25)):=Gr.alloc (Gr.refl _) _
 have hVA:VAt (w.alloc (.cells #[.bool k.ok, .int .i64 k.n] 25)) w.heap.size k:=by
  refine ⟨?_,?_,?_⟩
  all_goals first|(go_simp;done)|(simp;done)
 have h20':(L.length:Int)≤20:=by omega
 clear hok hle hf
 go_enter Tryz.func12,Tryz.ntmps12
 go_wp2_with fail
 refine (QK _).mono ?_;rintro e w1 ⟨rfl,hg1⟩
 have gw1:=Gr.trans gb hg1
 have hVA1:=hVA.gr hg1
 clear QK gb hVA hg1
 go_wp2
 go_loopw [10] (fun i wr=>∃j:Nat,j≤L.length∧i= .int .i64 j∧Gr w wr∧VAt wr w.heap.size k) (fun i _=>L.length-(intOf i).toNat)
 case atStart=>exact ⟨0,Nat.zero_le _,rfl,gw1,hVA1⟩
 case round=>
  obtain ⟨j,hj,rfl,hgr,hVA⟩:=hrel
  by_cases hlt:j<L.length
  ·
   obtain ⟨x,hx⟩:∃x,L[j]=x:=⟨_,rfl⟩
   obtain ⟨ad,rfl,hb,hx0,hx1,hx2,hx3,hx4⟩:=(hr.gr hgr).at hlt
   have hsx:=HOK.out _ (List.getElem_mem hlt)
   have hvx:=(hv _ (List.getElem_mem hlt)).gr hgr
   rw[hx] at hx0 hx1 hx2 hx3 hx4 hsx hvx
   have QI:=fun w hr=>rsis_any x.s x.A x.c w hr
   simp only[hsx] at QI
   clear hx hsx
   go_wp2_with fail
   refine (QI _ hvx).mono ?_;rintro e w5 ⟨rfl,hg⟩
   have gw5:=Gr.trans hgr hg
   have hVA5:=hVA.gr hg
   clear hx0 hx1 hx2 hx3 hx4 hg
   go_wp2
   go_roundw
   case rel=>exact ⟨j+1,by omega,by go_num,gw5,hVA5⟩
   case measure=>simp[intOf];omega
  have hkk:j=L.length:=by omega
  subst hkk
  clear gw1 hVA1
  go_wp2
  have hS0:VAt wr.drew w.heap.size k:=hVA.gr (Gr.drew (Gr.refl _))
  have gV0:Gr w wr.drew:=Gr.drew hgr
  obtain ⟨V,hV⟩:∃V,V=wr.drew:=⟨_,rfl⟩
  refine wp_region_Z 6 (fun W=>VAt W w.heap.size k) (by kernel_rfl) ?_
  rw[←hV] at hS0 gV0 ⊢
  clear hV hVA hgr
  refine zt 0 rfl hS0 (fun W hS=>by obtain ⟨k0,k1,kz⟩:=hS;go_simp;rfl) ?_
  refine zt 1 rfl hS0 (fun W hS=>by go_simp;rfl) ?_
  refine zt 2 rfl hS0 (fun W hS=>by go_simp;rfl) ?_
  refine zs 3 rfl (fun K hK=>?_)
  go_simp
  refine (rsorted_any nm A c L _ h20 HLE.out (hr.gr gV0) (hv.gr gV0)).mono ?_;rintro e w5 ⟨A5,c5,rfl,hc5,hr5,hg5⟩
  have gV5:=Gr.trans gV0 hg5
  have hS5:=hS0.gr hg5
  go_wp2_with fail
  refine hK.out _ _ (fun hnz=>?s88) (fun _=>?r88)
  case s88=>exact hS5
  clear hK K
  try simp only[Pu]
  refine zs 4 rfl (fun K hK=>?_)
  go_simp
  refine (rfirst_any k A5 c5 _ _ (by rw[sortR_len];omega) hc5 hr5).mono ?_;rintro e w6 ⟨A6,c6,rfl,hc6,hr6,hg6⟩
  have gV6:=Gr.trans gV5 hg6
  have hS6:=hS5.gr hg6
  go_wp2_with fail
  refine hK.out _ _ (fun hnz=>?s89) (fun _=>?r89)
  case s89=>exact hS6
  clear hK K
  try simp only[Pu]
  refine zs 5 rfl (fun K hK=>?_)
  go_simp
  refine hK.out _ _ (fun hnz=>?s90) (fun _=>?r90)
  case s90=>exact hS6
  clear hK K
  try simp only[Pu]
  refine zs 6 rfl (fun K hK=>?_)
  go_simp
  refine hK.out _ _ (fun hnz=>?s91) (fun _=>?r91)
  case s91=>exact hS6
  clear hK K
  try simp only[Pu]
  refine wpAnyZ_done (by kernel_rfl) ?_ _
  clear hS0 hS5 hS6
  go_wp2
  go_ret2
  exact ⟨A6,c6,rfl,hr6,gV6⟩
theorem rapply_p11 (nm text:ByteArray) (k:Vl) (A:Option Addr) (c:Nat) (L:List Sq) (w:World) (e0:(nm.toList==[103,114,101,112])=false) (e1:(nm.toList==[101,120,99,108,117,100,101])=false) (e2:(nm.toList==[108,105,109,105,116])=false) (e3:(nm.toList==[115,111,114,116,66,121,78,97,109,101])=false) (e4:(nm.toList==[115,111,114,116,66,121,77,97,120,105,109,97])=false) (e5:(nm.toList==[115,111,114,116,66,121,77,105,110,105,109,97])=false) (e6:(nm.toList==[115,111,114,116,66,121,84,111,116,97,108])=false) (e7:(nm.toList==[104,105,103,104,101,115,116,77,97,120])=false) (e8:(nm.toList==[104,105,103,104,101,115,116,65,118,101,114,97,103,101])=false) (e9:(nm.toList==[104,105,103,104,101,115,116,67,117,114,114,101,110,116])=false) (e10:(nm.toList==[108,111,119,101,115,116,65,118,101,114,97,103,101])=false) (e11:(nm.toList==[108,111,119,101,115,116,67,117,114,114,101,110,116])=true) (hf:(findF nm).isSome=true) (hok:okL L=true) (h20:L.length≤20) (hcap:L.length≤c) (hle:∀x∈L,x.s.vals.length≤1000000) (hr:Rl w A L) (hv:Lie w L) :
  Calls Tryz.prog 12 #[.string nm, .agg #[.bool k.ok, .int .i64 k.n], .string text, .slice A L.length c] w (RetTk 0 (firstL (normV k) (sortR (fun a b=>aheadB nm a.s.name b.s.name (ofR (rowF nm).by_ a.s.vals) (ofR (rowF nm).by_ b.s.vals)) L)) w):=by
 have QK:=fun w=>knows_any nm w
 simp only[hf] at QK
 have HOK:Hid (∀x∈L,isS x.s=true):=Lib.hid (fun x hx=>List.all_eq_true.1 hok x hx)
 have HLE:=Lib.hid hle
 have gb:Gr w (w.alloc (.cells #[.bool k.ok, .int .i64 k.n] 25)):=Gr.alloc (Gr.refl _) _
 have hVA:VAt (w.alloc (.cells #[.bool k.ok, .int .i64 k.n] 25)) w.heap.size k:=by
  refine ⟨?_,?_,?_⟩
  all_goals first|(go_simp;done)|(simp;done)
 have h20':(L.length:Int)≤20:=by omega
 clear hok hle hf
 go_enter Tryz.func12,Tryz.ntmps12
 go_wp2_with fail
 refine (QK _).mono ?_;rintro e w1 ⟨rfl,hg1⟩
 have gw1:=Gr.trans gb hg1
 have hVA1:=hVA.gr hg1
 clear QK gb hVA hg1
 go_wp2
 go_loopw [10] (fun i wr=>∃j:Nat,j≤L.length∧i= .int .i64 j∧Gr w wr∧VAt wr w.heap.size k) (fun i _=>L.length-(intOf i).toNat)
 case atStart=>exact ⟨0,Nat.zero_le _,rfl,gw1,hVA1⟩
 case round=>
  obtain ⟨j,hj,rfl,hgr,hVA⟩:=hrel
  by_cases hlt:j<L.length
  ·
   obtain ⟨x,hx⟩:∃x,L[j]=x:=⟨_,rfl⟩
   obtain ⟨ad,rfl,hb,hx0,hx1,hx2,hx3,hx4⟩:=(hr.gr hgr).at hlt
   have hsx:=HOK.out _ (List.getElem_mem hlt)
   have hvx:=(hv _ (List.getElem_mem hlt)).gr hgr
   rw[hx] at hx0 hx1 hx2 hx3 hx4 hsx hvx
   have QI:=fun w hr=>rsis_any x.s x.A x.c w hr
   simp only[hsx] at QI
   clear hx hsx
   go_wp2_with fail
   refine (QI _ hvx).mono ?_;rintro e w5 ⟨rfl,hg⟩
   have gw5:=Gr.trans hgr hg
   have hVA5:=hVA.gr hg
   clear hx0 hx1 hx2 hx3 hx4 hg
   go_wp2
   go_roundw
   case rel=>exact ⟨j+1,by omega,by go_num,gw5,hVA5⟩
   case measure=>simp[intOf];omega
  have hkk:j=L.length:=by omega
  subst hkk
  clear gw1 hVA1
  go_wp2
  have hS0:VAt wr.drew w.heap.size k:=hVA.gr (Gr.drew (Gr.refl _))
  have gV0:Gr w wr.drew:=Gr.drew hgr
  obtain ⟨V,hV⟩:∃V,V=wr.drew:=⟨_,rfl⟩
  refine wp_region_Z 6 (fun W=>VAt W w.heap.size k) (by kernel_rfl) ?_
  rw[←hV] at hS0 gV0 ⊢
  clear hV hVA hgr
  refine zt 0 rfl hS0 (fun W hS=>by obtain ⟨k0,k1,kz⟩:=hS;go_simp;rfl) ?_
  refine zt 1 rfl hS0 (fun W hS=>by go_simp;rfl) ?_
  refine zt 2 rfl hS0 (fun W hS=>by go_simp;rfl) ?_
  refine zs 3 rfl (fun K hK=>?_)
  go_simp
  refine (rsorted_any nm A c L _ h20 HLE.out (hr.gr gV0) (hv.gr gV0)).mono ?_;rintro e w5 ⟨A5,c5,rfl,hc5,hr5,hg5⟩
  have gV5:=Gr.trans gV0 hg5
  have hS5:=hS0.gr hg5
  go_wp2_with fail
  refine hK.out _ _ (fun hnz=>?s95) (fun _=>?r95)
  case s95=>exact hS5
  clear hK K
  try simp only[Pu]
  refine zs 4 rfl (fun K hK=>?_)
  go_simp
  refine (rfirst_any k A5 c5 _ _ (by rw[sortR_len];omega) hc5 hr5).mono ?_;rintro e w6 ⟨A6,c6,rfl,hc6,hr6,hg6⟩
  have gV6:=Gr.trans gV5 hg6
  have hS6:=hS5.gr hg6
  go_wp2_with fail
  refine hK.out _ _ (fun hnz=>?s96) (fun _=>?r96)
  case s96=>exact hS6
  clear hK K
  try simp only[Pu]
  refine zs 5 rfl (fun K hK=>?_)
  go_simp
  refine hK.out _ _ (fun hnz=>?s97) (fun _=>?r97)
  case s97=>exact hS6
  clear hK K
  try simp only[Pu]
  refine zs 6 rfl (fun K hK=>?_)
  go_simp
  refine hK.out _ _ (fun hnz=>?s98) (fun _=>?r98)
  case s98=>exact hS6
  clear hK K
  try simp only[Pu]
  refine wpAnyZ_done (by kernel_rfl) ?_ _
  clear hS0 hS5 hS6
  go_wp2
  go_ret2
  exact ⟨A6,c6,rfl,hr6,gV6⟩
theorem rapply_p12 (nm text:ByteArray) (k:Vl) (A:Option Addr) (c:Nat) (L:List Sq) (w:World) (e0:(nm.toList==[103,114,101,112])=false) (e1:(nm.toList==[101,120,99,108,117,100,101])=false) (e2:(nm.toList==[108,105,109,105,116])=false) (e3:(nm.toList==[115,111,114,116,66,121,78,97,109,101])=false) (e4:(nm.toList==[115,111,114,116,66,121,77,97,120,105,109,97])=false) (e5:(nm.toList==[115,111,114,116,66,121,77,105,110,105,109,97])=false) (e6:(nm.toList==[115,111,114,116,66,121,84,111,116,97,108])=false) (e7:(nm.toList==[104,105,103,104,101,115,116,77,97,120])=false) (e8:(nm.toList==[104,105,103,104,101,115,116,65,118,101,114,97,103,101])=false) (e9:(nm.toList==[104,105,103,104,101,115,116,67,117,114,114,101,110,116])=false) (e10:(nm.toList==[108,111,119,101,115,116,65,118,101,114,97,103,101])=false) (e11:(nm.toList==[108,111,119,101,115,116,67,117,114,114,101,110,116])=false) (e12:(nm.toList==[109,111,115,116,68,101,118,105,97,110,116])=true) (hf:(findF nm).isSome=true) (hok:okL L=true) (h20:L.length≤20) (hcap:L.length≤c) (hle:∀x∈L,x.s.vals.length≤1000000) (hr:Rl w A L) (hv:Lie w L) :
  Calls Tryz.prog 12 #[.string nm, .agg #[.bool k.ok, .int .i64 k.n], .string text, .slice A L.length c] w (RetTk 0 (firstL (normV k) (sortR (fun a b=>aheadB nm a.s.name b.s.name (ofR (rowF nm).by_ a.s.vals) (ofR (rowF nm).by_ b.s.vals)) L)) w):=by
 have QK:=fun w=>knows_any nm w
 simp only[hf] at QK
 have HOK:Hid (∀x∈L,isS x.s=true):=Lib.hid (fun x hx=>List.all_eq_true.1 hok x hx)
 have HLE:=Lib.hid hle
 have gb:Gr w (w.alloc (.cells #[.bool k.ok, .int .i64 k.n] 25)):=Gr.alloc (Gr.refl _) _
 have hVA:VAt (w.alloc (.cells #[.bool k.ok, .int .i64 k.n] 25)) w.heap.size k:=by
  refine ⟨?_,?_,?_⟩
  all_goals first|(go_simp;done)|(simp;done)
 have h20':(L.length:Int)≤20:=by omega
 clear hok hle hf
 go_enter Tryz.func12,Tryz.ntmps12
 go_wp2_with fail
 refine (QK _).mono ?_;rintro e w1 ⟨rfl,hg1⟩
 have gw1:=Gr.trans gb hg1
 have hVA1:=hVA.gr hg1
 clear QK gb hVA hg1
 go_wp2
 go_loopw [10] (fun i wr=>∃j:Nat,j≤L.length∧i= .int .i64 j∧Gr w wr∧VAt wr w.heap.size k) (fun i _=>L.length-(intOf i).toNat)
 case atStart=>exact ⟨0,Nat.zero_le _,rfl,gw1,hVA1⟩
 case round=>
  obtain ⟨j,hj,rfl,hgr,hVA⟩:=hrel
  by_cases hlt:j<L.length
  ·
   obtain ⟨x,hx⟩:∃x,L[j]=x:=⟨_,rfl⟩
   obtain ⟨ad,rfl,hb,hx0,hx1,hx2,hx3,hx4⟩:=(hr.gr hgr).at hlt
   have hsx:=HOK.out _ (List.getElem_mem hlt)
   have hvx:=(hv _ (List.getElem_mem hlt)).gr hgr
   rw[hx] at hx0 hx1 hx2 hx3 hx4 hsx hvx
   have QI:=fun w hr=>rsis_any x.s x.A x.c w hr
   simp only[hsx] at QI
   clear hx hsx
   go_wp2_with fail
   refine (QI _ hvx).mono ?_;rintro e w5 ⟨rfl,hg⟩
   have gw5:=Gr.trans hgr hg
   have hVA5:=hVA.gr hg
   clear hx0 hx1 hx2 hx3 hx4 hg
   go_wp2
   go_roundw
   case rel=>exact ⟨j+1,by omega,by go_num,gw5,hVA5⟩
   case measure=>simp[intOf];omega
  have hkk:j=L.length:=by omega
  subst hkk
  clear gw1 hVA1
  go_wp2
  have hS0:VAt wr.drew w.heap.size k:=hVA.gr (Gr.drew (Gr.refl _))
  have gV0:Gr w wr.drew:=Gr.drew hgr
  obtain ⟨V,hV⟩:∃V,V=wr.drew:=⟨_,rfl⟩
  refine wp_region_Z 6 (fun W=>VAt W w.heap.size k) (by kernel_rfl) ?_
  rw[←hV] at hS0 gV0 ⊢
  clear hV hVA hgr
  refine zt 0 rfl hS0 (fun W hS=>by obtain ⟨k0,k1,kz⟩:=hS;go_simp;rfl) ?_
  refine zt 1 rfl hS0 (fun W hS=>by go_simp;rfl) ?_
  refine zt 2 rfl hS0 (fun W hS=>by go_simp;rfl) ?_
  refine zs 3 rfl (fun K hK=>?_)
  go_simp
  refine (rsorted_any nm A c L _ h20 HLE.out (hr.gr gV0) (hv.gr gV0)).mono ?_;rintro e w5 ⟨A5,c5,rfl,hc5,hr5,hg5⟩
  have gV5:=Gr.trans gV0 hg5
  have hS5:=hS0.gr hg5
  go_wp2_with fail
  refine hK.out _ _ (fun hnz=>?s102) (fun _=>?r102)
  case s102=>exact hS5
  clear hK K
  try simp only[Pu]
  refine zs 4 rfl (fun K hK=>?_)
  go_simp
  refine (rfirst_any k A5 c5 _ _ (by rw[sortR_len];omega) hc5 hr5).mono ?_;rintro e w6 ⟨A6,c6,rfl,hc6,hr6,hg6⟩
  have gV6:=Gr.trans gV5 hg6
  have hS6:=hS5.gr hg6
  go_wp2_with fail
  refine hK.out _ _ (fun hnz=>?s103) (fun _=>?r103)
  case s103=>exact hS6
  clear hK K
  try simp only[Pu]
  refine zs 5 rfl (fun K hK=>?_)
  go_simp
  refine hK.out _ _ (fun hnz=>?s104) (fun _=>?r104)
  case s104=>exact hS6
  clear hK K
  try simp only[Pu]
  refine zs 6 rfl (fun K hK=>?_)
  go_simp
  refine hK.out _ _ (fun hnz=>?s105) (fun _=>?r105)
  case s105=>exact hS6
  clear hK K
  try simp only[Pu]
  refine wpAnyZ_done (by kernel_rfl) ?_ _
  clear hS0 hS5 hS6
  go_wp2
  go_ret2
  exact ⟨A6,c6,rfl,hr6,gV6⟩
theorem rapply_k (nm text:ByteArray) (k:Vl) (A:Option Addr) (c:Nat) (L:List Sq) (w:World) (e0:(nm.toList==[103,114,101,112])=false) (e1:(nm.toList==[101,120,99,108,117,100,101])=false) (e2:(nm.toList==[108,105,109,105,116])=false) (e3:(nm.toList==[115,111,114,116,66,121,78,97,109,101])=false) (e4:(nm.toList==[115,111,114,116,66,121,77,97,120,105,109,97])=false) (e5:(nm.toList==[115,111,114,116,66,121,77,105,110,105,109,97])=false) (e6:(nm.toList==[115,111,114,116,66,121,84,111,116,97,108])=false) (e7:(nm.toList==[104,105,103,104,101,115,116,77,97,120])=false) (e8:(nm.toList==[104,105,103,104,101,115,116,65,118,101,114,97,103,101])=false) (e9:(nm.toList==[104,105,103,104,101,115,116,67,117,114,114,101,110,116])=false) (e10:(nm.toList==[108,111,119,101,115,116,65,118,101,114,97,103,101])=false) (e11:(nm.toList==[108,111,119,101,115,116,67,117,114,114,101,110,116])=false) (e12:(nm.toList==[109,111,115,116,68,101,118,105,97,110,116])=false) (hf:(findF nm).isSome=true) (hok:okL L=true) (h20:L.length≤20) (hcap:L.length≤c) (hle:∀x∈L,x.s.vals.length≤1000000) (hr:Rl w A L) (hv:Lie w L) :
  Calls Tryz.prog 12 #[.string nm, .agg #[.bool k.ok, .int .i64 k.n], .string text, .slice A L.length c] w (RetTk 0 (L.filter fun x=>keepsB nm k (ofR (rowF nm).by_ x.s.vals) x.s.vals) w):=by
 have QK:=fun w=>knows_any nm w
 simp only[hf] at QK
 have HOK:Hid (∀x∈L,isS x.s=true):=Lib.hid (fun x hx=>List.all_eq_true.1 hok x hx)
 have HLE:=Lib.hid hle
 have gb:Gr w (w.alloc (.cells #[.bool k.ok, .int .i64 k.n] 25)):=Gr.alloc (Gr.refl _) _
 have hVA:VAt (w.alloc (.cells #[.bool k.ok, .int .i64 k.n] 25)) w.heap.size k:=by
  refine ⟨?_,?_,?_⟩
  all_goals first|(go_simp;done)|(simp;done)
 have h20':(L.length:Int)≤20:=by omega
 clear hok hle hf
 go_enter Tryz.func12,Tryz.ntmps12
 go_wp2_with fail
 refine (QK _).mono ?_;rintro e w1 ⟨rfl,hg1⟩
 have gw1:=Gr.trans gb hg1
 have hVA1:=hVA.gr hg1
 clear QK gb hVA hg1
 go_wp2
 go_loopw [10] (fun i wr=>∃j:Nat,j≤L.length∧i= .int .i64 j∧Gr w wr∧VAt wr w.heap.size k) (fun i _=>L.length-(intOf i).toNat)
 case atStart=>exact ⟨0,Nat.zero_le _,rfl,gw1,hVA1⟩
 case round=>
  obtain ⟨j,hj,rfl,hgr,hVA⟩:=hrel
  by_cases hlt:j<L.length
  ·
   obtain ⟨x,hx⟩:∃x,L[j]=x:=⟨_,rfl⟩
   obtain ⟨ad,rfl,hb,hx0,hx1,hx2,hx3,hx4⟩:=(hr.gr hgr).at hlt
   have hsx:=HOK.out _ (List.getElem_mem hlt)
   have hvx:=(hv _ (List.getElem_mem hlt)).gr hgr
   rw[hx] at hx0 hx1 hx2 hx3 hx4 hsx hvx
   have QI:=fun w hr=>rsis_any x.s x.A x.c w hr
   simp only[hsx] at QI
   clear hx hsx
   go_wp2_with fail
   refine (QI _ hvx).mono ?_;rintro e w5 ⟨rfl,hg⟩
   have gw5:=Gr.trans hgr hg
   have hVA5:=hVA.gr hg
   clear hx0 hx1 hx2 hx3 hx4 hg
   go_wp2
   go_roundw
   case rel=>exact ⟨j+1,by omega,by go_num,gw5,hVA5⟩
   case measure=>simp[intOf];omega
  have hkk:j=L.length:=by omega
  subst hkk
  clear gw1 hVA1
  obtain ⟨i0,hi0,hz0,hz1,hz2⟩:=info_parts info_ser
  obtain ⟨wf,hwf⟩:∃wf:World,wf=wr:=⟨_,rfl⟩
  subst hwf
  go_wp2
  go_loopw [11,12] (fun v i wr=>∃(j:Nat) (M:List Sq),j≤L.length∧i= .int .i64 j∧Gr w wr∧VAt wr w.heap.size k∧wr.ownsRow (w.heap.size+1) 34 5 v M.length (scells M)∧M.length≤j∧Hid (M=(L.take j).filter fun x=>keepsB nm k (ofR (rowF nm).by_ x.s.vals) x.s.vals)) (fun _ i _=>L.length-(intOf i).toNat)
  case atStart=>exact ⟨0,[],Nat.zero_le _,rfl,hgr,hVA,World.ownsRow_nil _ _ _ _,Nat.le_refl _,Lib.hid rfl⟩
  case round=>
   clear hgr hVA
   obtain ⟨j,M,hj,rfl,hgr,hVA,hown,hMj,HM⟩:=hrel
   by_cases hlt:j<L.length
   ·
    obtain ⟨x,hx⟩:∃x,L[j]=x:=⟨_,rfl⟩
    obtain ⟨ad,rfl,hb,hx0,hx1,hx2,hx3,hx4⟩:=(hr.gr hgr).at hlt
    have hvx:=(hv _ (List.getElem_mem hlt)).gr hgr
    have hlx:=HLE.out _ (List.getElem_mem hlt)
    rw[hx] at hx0 hx1 hx2 hx3 hx4 hvx hlx
    have HX:Hid (∀W,Gr wr W→W.cell? (ad.add (j*5))=some (.string x.s.name)∧W.cell? ⟨(ad.add (j*5)).block,(ad.add (j*5)).off+1,none⟩=some (.int .i64 x.s.start)∧W.cell? ⟨(ad.add (j*5)).block,(ad.add (j*5)).off+2,none⟩=some (.int .i64 x.s.step)∧W.cell? ⟨(ad.add (j*5)).block,(ad.add (j*5)).off+3,none⟩=some (.slice x.A x.s.vals.length x.c)∧W.cell? ⟨(ad.add (j*5)).block,(ad.add (j*5)).off+4,none⟩=some (.int .i64 x.s.cons)∧W.cell? ⟨w.heap.size,0,none⟩=some (.bool k.ok)∧W.cell? ⟨w.heap.size,1,none⟩=some (.int .i64 k.n)):=Lib.hid (fun W hW=>⟨(hW.cell (p:=ad.add (j*5)) (by rw[add_blk];exact hb)).trans hx0,(hW.cell (p:=⟨(ad.add (j*5)).block,(ad.add (j*5)).off+1,none⟩) (by show (ad.add (j*5)).block<_;rw[add_blk];exact hb)).trans hx1,(hW.cell (p:=⟨(ad.add (j*5)).block,(ad.add (j*5)).off+2,none⟩) (by show (ad.add (j*5)).block<_;rw[add_blk];exact hb)).trans hx2,(hW.cell (p:=⟨(ad.add (j*5)).block,(ad.add (j*5)).off+3,none⟩) (by show (ad.add (j*5)).block<_;rw[add_blk];exact hb)).trans hx3,(hW.cell (p:=⟨(ad.add (j*5)).block,(ad.add (j*5)).off+4,none⟩) (by show (ad.add (j*5)).block<_;rw[add_blk];exact hb)).trans hx4,(hVA.gr hW).1,(hVA.gr hW).2.1⟩)
    have HT:Hid ((L.take (j+1)).filter (fun x=>keepsB nm k (ofR (rowF nm).by_ x.s.vals) x.s.vals)=M++[x].filter fun x=>keepsB nm k (ofR (rowF nm).by_ x.s.vals) x.s.vals):=Lib.hid (by rw[List.take_succ_eq_append_getElem hlt,List.filter_append,HM.out,hx])
    clear hx HM hx0 hx1 hx2 hx3 hx4
    go_wp2
    refine region_Q (by kernel_rfl) (by kernel_rfl) ?_
    refine qv ?_;simp only[Pu]
    refine q_val (v:=?qv46) (by rfl) (fun W hW=>?qh46) ?qr46
    case qh46=>obtain ⟨x0,x1,x2,x3,x4,k0,k1⟩:=HX.out W hW;go_simp;rfl
    simp only[Pu]
    iterate 3 (refine qv ?_;simp only[Pu])
    refine q_val (v:=?qv50) (by rfl) (fun W hW=>?qh50) ?qr50
    case qh50=>obtain ⟨x0,x1,x2,x3,x4,k0,k1⟩:=HX.out W hW;go_simp;rfl
    simp only[Pu]
    refine q_call (v:= .bool (keepsB nm k (ofR (rowF nm).by_ x.s.vals) x.s.vals)) (f:=?qf51) (args:=?qa51) (by rfl) (fun W hW=>?qh51) (fun W hW=>?qc51) ?qr51
    case qh51=>go_simp;constructor<;>rfl
    case qc51=>exact (keeps_any nm k x W hlx (hvx.gr hW)).mono (fun e w' h=>⟨h.1,Gr.trans hW h.2⟩)
    simp only[Pu]
    refine wpQuiet_nil ?_
    intro w5 hg5
    have gw5:=Gr.trans hgr hg5
    have hVA5:=hVA.gr hg5
    have hown5:=own_gr hown hg5
    obtain ⟨x0,x1,x2,x3,x4,_,_⟩:=HX.out _ hg5
    obtain ⟨b,hbb⟩:∃b,keepsB nm k (ofR (rowF nm).by_ x.s.vals) x.s.vals=b:=⟨_,rfl⟩
    rw[hbb]
    have HB:=Lib.hid hbb
    have hb5:ad.block<w5.heap.size:=Nat.lt_of_lt_of_le hb hg5.size
    clear hbb HX hg5 hown
    cases b
    ·
     have HT2:Hid (M=(L.take (j+1)).filter fun x=>keepsB nm k (ofR (rowF nm).by_ x.s.vals) x.s.vals):=Lib.hid (by rw[HT.out];simp[HB.out])
     clear x0 x1 x2 x3 x4 HT HB
     go_wp2
     go_roundw
     case rel=>exact ⟨j+1,M,by omega,by go_num,gw5,hVA5,hown5,by omega,HT2⟩
     case measure=>simp[intOf];omega
    ·
     have HT2:Hid (M++[x]=(L.take (j+1)).filter fun x=>keepsB nm k (ofR (rowF nm).by_ x.s.vals) x.s.vals):=Lib.hid (by rw[HT.out];simp[HB.out])
     have hrx:=Rl.new (W:=w5) rfl 34 [x]
     have hv0:=hown5.alloc (.cells (scells [x]).toArray 34)
     have hvl:=hown5.lt
     have z5:=hVA5.2.2
     clear HT HB
     go_wp2_with
      (
       at_builtin
       refine wpList_append_rd rfl (.tmp 77) (.tmp 82) 22 rfl (w.heap.size+1) 34 i0 _ 5 64 Tryz.underlying22 hi0 hz0 hz1 hz2 rfl (by decide) _ M.length _ rfl hv0 (some ⟨w5.heap.size,0,none⟩) 1 _ (scells [x]) rfl hrx (scells_one _) (by unfold maxLen;omega) (by omega) (by simp;omega) ?_
       intro v' w7 hown7 hgr7 hat7)
     have hg7:Gr w w7:=Gr.grown (Gr.alloc gw5 _) hgr7 (fun i hi=>by have:=(hvl i hi).1;omega)
     have hVA7:VAt w7 w.heap.size k:=by
      have h:=hVA5.gr (Gr.alloc (Gr.refl w5) (.cells (scells [x]).toArray 34))
      have hn:some w.heap.size≠u11.ownBlock:=fun e=>by have:=(hvl _ e.symm).1;omega
      exact ⟨hgr7.cell h.1 hn,hgr7.cell h.2.1 hn,Nat.lt_of_lt_of_le h.2.2 hgr7.size⟩
     have hown8:w7.ownsRow (w.heap.size+1) 34 5 v' (M++[x]).length (scells (M++[x])):=by rw[scells_append,List.length_append];exact hown7
     clear hv0 hvl hgr7 hat7 hrx hown5 hown7 x0 x1 x2 x3 x4
     go_roundw
     case rel=>exact ⟨j+1,M++[x],by omega,by go_num,hg7,hVA7,hown8,by simp;omega,HT2⟩
     case measure=>simp[intOf];omega
   ·
    have hkk:j=L.length:=by omega
    subst hkk
    obtain ⟨A',c',hvv⟩:=own_form hown
    subst hvv
    have hRl:Rl wr A' M:=Rd.own hown
    have HM2:Hid (M=L.filter fun x=>keepsB nm k (ofR (rowF nm).by_ x.s.vals) x.s.vals):=Lib.hid (by rw[HM.out,List.take_length])
    clear HM hown
    go_wp2
    go_ret2
    exact ⟨A',c',ret_tup (congrArg List.length HM2.out),by rw[←HM2.out];exact hRl,hgr⟩
theorem below_eq (k x:Vl) (hx:isB x=true):(knB k&&(x.ok && !lessB k x))=(x.ok&&((normV k).ok&&decide (x.n≤(normV k).n))):=by
 obtain ⟨xo,xn⟩:=x
 cases xo
 ·
  simp
 ·
  have hxk:knB ⟨true,xn⟩=true:=by unfold knB;rw[hx];rfl
  cases hk:knB k
  ·
   rw[normV_no hk];simp
  ·
   rw[normV_kn hk]
   have hok:=knB_ok hk
   unfold lessB
   rw[hk,hxk,hok]
   by_cases h:xn≤k.n
   ·
    have:¬k.n<xn:=by omega
    simp[h,this]
   ·
    have:k.n<xn:=by omega
    simp[h,this]
theorem above_eq (k x:Vl):lessB k x=lessB (normV k) x:=by
 cases hk:knB k
 ·
  unfold lessB
  have:knB (normV k)=false:=by unfold knB;rw[normV_no hk];rfl
  rw[hk,this];rfl
 ·
  rw[normV_kn hk]
def PickR (r:Fr):Prop:=r.kind=0∨∀(nm text:ByteArray) (k:Vl) (A:Option Addr) (c:Nat) (L:List Sq) (w:World),nm=r.nm→rowF nm=r→(findF nm).isSome=true→okL L=true→L.length≤20→L.length≤c→(∀x∈L,x.s.vals.length≤1000000)→Rl w A L→Lie w L→
  Calls Tryz.prog 12 #[.string nm, .agg #[.bool k.ok, .int .i64 k.n], .string text, .slice A L.length c] w (RetTk 0 (pickA Sq.s r (normV k) L) w)
theorem pick_0:PickR R0:= .inr (fun nm text k A c L w hn hrow hf hok h20 hcap hle hr hv=>by
 have h:=rapply_k nm text k A c L w (nm_is (l:=[103,114,101,112]) (b:=false) hn rfl) (nm_is (l:=[101,120,99,108,117,100,101]) (b:=false) hn rfl) (nm_is (l:=[108,105,109,105,116]) (b:=false) hn rfl) (nm_is (l:=[115,111,114,116,66,121,78,97,109,101]) (b:=false) hn rfl) (nm_is (l:=[115,111,114,116,66,121,77,97,120,105,109,97]) (b:=false) hn rfl) (nm_is (l:=[115,111,114,116,66,121,77,105,110,105,109,97]) (b:=false) hn rfl) (nm_is (l:=[115,111,114,116,66,121,84,111,116,97,108]) (b:=false) hn rfl) (nm_is (l:=[104,105,103,104,101,115,116,77,97,120]) (b:=false) hn rfl) (nm_is (l:=[104,105,103,104,101,115,116,65,118,101,114,97,103,101]) (b:=false) hn rfl) (nm_is (l:=[104,105,103,104,101,115,116,67,117,114,114,101,110,116]) (b:=false) hn rfl) (nm_is (l:=[108,111,119,101,115,116,65,118,101,114,97,103,101]) (b:=false) hn rfl) (nm_is (l:=[108,111,119,101,115,116,67,117,114,114,101,110,116]) (b:=false) hn rfl) (nm_is (l:=[109,111,115,116,68,101,118,105,97,110,116]) (b:=false) hn rfl) hf hok h20 hcap hle hr hv
 rw[hrow] at h
 have e:(fun (x:Sq)=>keepsB nm k (ofR R0.by_ x.s.vals) x.s.vals)=(fun x=>lessB (normV k) (ofR R0.by_ x.s.vals)):=by
  funext x
  unfold keepsB
  rw[(nm_is (l:=[114,101,109,111,118,101,69,109,112,116,121,83,101,114,105,101,115]) (b:=false) hn rfl),(nm_is (l:=[97,118,101,114,97,103,101,65,98,111,118,101]) (b:=true) hn rfl),(nm_is (l:=[99,117,114,114,101,110,116,65,98,111,118,101]) (b:=false) hn rfl),(nm_is (l:=[109,97,120,105,109,117,109,65,98,111,118,101]) (b:=false) hn rfl),(nm_is (l:=[109,105,110,105,109,117,109,65,98,111,118,101]) (b:=false) hn rfl)]
  exact above_eq k _
 rw[e] at h
 exact h)
theorem pick_1:PickR R1:= .inr (fun nm text k A c L w hn hrow hf hok h20 hcap hle hr hv=>by
 have h:=rapply_k nm text k A c L w (nm_is (l:=[103,114,101,112]) (b:=false) hn rfl) (nm_is (l:=[101,120,99,108,117,100,101]) (b:=false) hn rfl) (nm_is (l:=[108,105,109,105,116]) (b:=false) hn rfl) (nm_is (l:=[115,111,114,116,66,121,78,97,109,101]) (b:=false) hn rfl) (nm_is (l:=[115,111,114,116,66,121,77,97,120,105,109,97]) (b:=false) hn rfl) (nm_is (l:=[115,111,114,116,66,121,77,105,110,105,109,97]) (b:=false) hn rfl) (nm_is (l:=[115,111,114,116,66,121,84,111,116,97,108]) (b:=false) hn rfl) (nm_is (l:=[104,105,103,104,101,115,116,77,97,120]) (b:=false) hn rfl) (nm_is (l:=[104,105,103,104,101,115,116,65,118,101,114,97,103,101]) (b:=false) hn rfl) (nm_is (l:=[104,105,103,104,101,115,116,67,117,114,114,101,110,116]) (b:=false) hn rfl) (nm_is (l:=[108,111,119,101,115,116,65,118,101,114,97,103,101]) (b:=false) hn rfl) (nm_is (l:=[108,111,119,101,115,116,67,117,114,114,101,110,116]) (b:=false) hn rfl) (nm_is (l:=[109,111,115,116,68,101,118,105,97,110,116]) (b:=false) hn rfl) hf hok h20 hcap hle hr hv
 rw[hrow] at h
 have e:(fun (x:Sq)=>keepsB nm k (ofR R1.by_ x.s.vals) x.s.vals)=(fun x=>(ofR R1.by_ x.s.vals).ok&&((normV k).ok&&decide ((ofR R1.by_ x.s.vals).n≤(normV k).n))):=by
  funext x
  unfold keepsB
  rw[(nm_is (l:=[114,101,109,111,118,101,69,109,112,116,121,83,101,114,105,101,115]) (b:=false) hn rfl),(nm_is (l:=[97,118,101,114,97,103,101,65,98,111,118,101]) (b:=false) hn rfl),(nm_is (l:=[99,117,114,114,101,110,116,65,98,111,118,101]) (b:=false) hn rfl),(nm_is (l:=[109,97,120,105,109,117,109,65,98,111,118,101]) (b:=false) hn rfl),(nm_is (l:=[109,105,110,105,109,117,109,65,98,111,118,101]) (b:=false) hn rfl)]
  exact below_eq k _ (ofR_isB _ _)
 rw[e] at h
 exact h)
theorem pick_2:PickR R2:= .inr (fun nm text k A c L w hn hrow hf hok h20 hcap hle hr hv=>by
 have h:=rapply_k nm text k A c L w (nm_is (l:=[103,114,101,112]) (b:=false) hn rfl) (nm_is (l:=[101,120,99,108,117,100,101]) (b:=false) hn rfl) (nm_is (l:=[108,105,109,105,116]) (b:=false) hn rfl) (nm_is (l:=[115,111,114,116,66,121,78,97,109,101]) (b:=false) hn rfl) (nm_is (l:=[115,111,114,116,66,121,77,97,120,105,109,97]) (b:=false) hn rfl) (nm_is (l:=[115,111,114,116,66,121,77,105,110,105,109,97]) (b:=false) hn rfl) (nm_is (l:=[115,111,114,116,66,121,84,111,116,97,108]) (b:=false) hn rfl) (nm_is (l:=[104,105,103,104,101,115,116,77,97,120]) (b:=false) hn rfl) (nm_is (l:=[104,105,103,104,101,115,116,65,118,101,114,97,103,101]) (b:=false) hn rfl) (nm_is (l:=[104,105,103,104,101,115,116,67,117,114,114,101,110,116]) (b:=false) hn rfl) (nm_is (l:=[108,111,119,101,115,116,65,118,101,114,97,103,101]) (b:=false) hn rfl) (nm_is (l:=[108,111,119,101,115,116,67,117,114,114,101,110,116]) (b:=false) hn rfl) (nm_is (l:=[109,111,115,116,68,101,118,105,97,110,116]) (b:=false) hn rfl) hf hok h20 hcap hle hr hv
 rw[hrow] at h
 have e:(fun (x:Sq)=>keepsB nm k (ofR R2.by_ x.s.vals) x.s.vals)=(fun x=>lessB (normV k) (ofR R2.by_ x.s.vals)):=by
  funext x
  unfold keepsB
  rw[(nm_is (l:=[114,101,109,111,118,101,69,109,112,116,121,83,101,114,105,101,115]) (b:=false) hn rfl),(nm_is (l:=[97,118,101,114,97,103,101,65,98,111,118,101]) (b:=false) hn rfl),(nm_is (l:=[99,117,114,114,101,110,116,65,98,111,118,101]) (b:=true) hn rfl),(nm_is (l:=[109,97,120,105,109,117,109,65,98,111,118,101]) (b:=false) hn rfl),(nm_is (l:=[109,105,110,105,109,117,109,65,98,111,118,101]) (b:=false) hn rfl)]
  exact above_eq k _
 rw[e] at h
 exact h)
theorem pick_3:PickR R3:= .inr (fun nm text k A c L w hn hrow hf hok h20 hcap hle hr hv=>by
 have h:=rapply_k nm text k A c L w (nm_is (l:=[103,114,101,112]) (b:=false) hn rfl) (nm_is (l:=[101,120,99,108,117,100,101]) (b:=false) hn rfl) (nm_is (l:=[108,105,109,105,116]) (b:=false) hn rfl) (nm_is (l:=[115,111,114,116,66,121,78,97,109,101]) (b:=false) hn rfl) (nm_is (l:=[115,111,114,116,66,121,77,97,120,105,109,97]) (b:=false) hn rfl) (nm_is (l:=[115,111,114,116,66,121,77,105,110,105,109,97]) (b:=false) hn rfl) (nm_is (l:=[115,111,114,116,66,121,84,111,116,97,108]) (b:=false) hn rfl) (nm_is (l:=[104,105,103,104,101,115,116,77,97,120]) (b:=false) hn rfl) (nm_is (l:=[104,105,103,104,101,115,116,65,118,101,114,97,103,101]) (b:=false) hn rfl) (nm_is (l:=[104,105,103,104,101,115,116,67,117,114,114,101,110,116]) (b:=false) hn rfl) (nm_is (l:=[108,111,119,101,115,116,65,118,101,114,97,103,101]) (b:=false) hn rfl) (nm_is (l:=[108,111,119,101,115,116,67,117,114,114,101,110,116]) (b:=false) hn rfl) (nm_is (l:=[109,111,115,116,68,101,118,105,97,110,116]) (b:=false) hn rfl) hf hok h20 hcap hle hr hv
 rw[hrow] at h
 have e:(fun (x:Sq)=>keepsB nm k (ofR R3.by_ x.s.vals) x.s.vals)=(fun x=>(ofR R3.by_ x.s.vals).ok&&((normV k).ok&&decide ((ofR R3.by_ x.s.vals).n≤(normV k).n))):=by
  funext x
  unfold keepsB
  rw[(nm_is (l:=[114,101,109,111,118,101,69,109,112,116,121,83,101,114,105,101,115]) (b:=false) hn rfl),(nm_is (l:=[97,118,101,114,97,103,101,65,98,111,118,101]) (b:=false) hn rfl),(nm_is (l:=[99,117,114,114,101,110,116,65,98,111,118,101]) (b:=false) hn rfl),(nm_is (l:=[109,97,120,105,109,117,109,65,98,111,118,101]) (b:=false) hn rfl),(nm_is (l:=[109,105,110,105,109,117,109,65,98,111,118,101]) (b:=false) hn rfl)]
  exact below_eq k _ (ofR_isB _ _)
 rw[e] at h
 exact h)
theorem pick_4:PickR R4:= .inl rfl
theorem pick_5:PickR R5:= .inl rfl
theorem pick_6:PickR R6:= .inr (fun nm text k A c L w hn hrow hf hok h20 hcap hle hr hv=>by
 have h:=rapply_p8 nm text k A c L w (nm_is (l:=[103,114,101,112]) (b:=false) hn rfl) (nm_is (l:=[101,120,99,108,117,100,101]) (b:=false) hn rfl) (nm_is (l:=[108,105,109,105,116]) (b:=false) hn rfl) (nm_is (l:=[115,111,114,116,66,121,78,97,109,101]) (b:=false) hn rfl) (nm_is (l:=[115,111,114,116,66,121,77,97,120,105,109,97]) (b:=false) hn rfl) (nm_is (l:=[115,111,114,116,66,121,77,105,110,105,109,97]) (b:=false) hn rfl) (nm_is (l:=[115,111,114,116,66,121,84,111,116,97,108]) (b:=false) hn rfl) (nm_is (l:=[104,105,103,104,101,115,116,77,97,120]) (b:=false) hn rfl) (nm_is (l:=[104,105,103,104,101,115,116,65,118,101,114,97,103,101]) (b:=true) hn rfl) hf hok h20 hcap hle hr hv
 rw[hrow] at h
 have e:(fun (a b:Sq)=>aheadB nm a.s.name b.s.name (ofR R6.by_ a.s.vals) (ofR R6.by_ b.s.vals))=(fun a b=>ltV R6.least (ofR R6.by_ a.s.vals) (ofR R6.by_ b.s.vals)):=by
  funext a b
  unfold aheadB
  rw[(nm_is (l:=[115,111,114,116,66,121,78,97,109,101]) (b:=false) hn rfl),(nm_is (l:=[115,111,114,116,66,121,77,105,110,105,109,97]) (b:=false) hn rfl),(nm_is (l:=[108,111,119,101,115,116,65,118,101,114,97,103,101]) (b:=false) hn rfl),(nm_is (l:=[108,111,119,101,115,116,67,117,114,114,101,110,116]) (b:=false) hn rfl)]
  rfl
 rw[e] at h
 exact h)
theorem pick_7:PickR R7:= .inr (fun nm text k A c L w hn hrow hf hok h20 hcap hle hr hv=>by
 have h:=rapply_p9 nm text k A c L w (nm_is (l:=[103,114,101,112]) (b:=false) hn rfl) (nm_is (l:=[101,120,99,108,117,100,101]) (b:=false) hn rfl) (nm_is (l:=[108,105,109,105,116]) (b:=false) hn rfl) (nm_is (l:=[115,111,114,116,66,121,78,97,109,101]) (b:=false) hn rfl) (nm_is (l:=[115,111,114,116,66,121,77,97,120,105,109,97]) (b:=false) hn rfl) (nm_is (l:=[115,111,114,116,66,121,77,105,110,105,109,97]) (b:=false) hn rfl) (nm_is (l:=[115,111,114,116,66,121,84,111,116,97,108]) (b:=false) hn rfl) (nm_is (l:=[104,105,103,104,101,115,116,77,97,120]) (b:=false) hn rfl) (nm_is (l:=[104,105,103,104,101,115,116,65,118,101,114,97,103,101]) (b:=false) hn rfl) (nm_is (l:=[104,105,103,104,101,115,116,67,117,114,114,101,110,116]) (b:=true) hn rfl) hf hok h20 hcap hle hr hv
 rw[hrow] at h
 have e:(fun (a b:Sq)=>aheadB nm a.s.name b.s.name (ofR R7.by_ a.s.vals) (ofR R7.by_ b.s.vals))=(fun a b=>ltV R7.least (ofR R7.by_ a.s.vals) (ofR R7.by_ b.s.vals)):=by
  funext a b
  unfold aheadB
  rw[(nm_is (l:=[115,111,114,116,66,121,78,97,109,101]) (b:=false) hn rfl),(nm_is (l:=[115,111,114,116,66,121,77,105,110,105,109,97]) (b:=false) hn rfl),(nm_is (l:=[108,111,119,101,115,116,65,118,101,114,97,103,101]) (b:=false) hn rfl),(nm_is (l:=[108,111,119,101,115,116,67,117,114,114,101,110,116]) (b:=false) hn rfl)]
  rfl
 rw[e] at h
 exact h)
theorem pick_8:PickR R8:= .inr (fun nm text k A c L w hn hrow hf hok h20 hcap hle hr hv=>by
 have h:=rapply_p7 nm text k A c L w (nm_is (l:=[103,114,101,112]) (b:=false) hn rfl) (nm_is (l:=[101,120,99,108,117,100,101]) (b:=false) hn rfl) (nm_is (l:=[108,105,109,105,116]) (b:=false) hn rfl) (nm_is (l:=[115,111,114,116,66,121,78,97,109,101]) (b:=false) hn rfl) (nm_is (l:=[115,111,114,116,66,121,77,97,120,105,109,97]) (b:=false) hn rfl) (nm_is (l:=[115,111,114,116,66,121,77,105,110,105,109,97]) (b:=false) hn rfl) (nm_is (l:=[115,111,114,116,66,121,84,111,116,97,108]) (b:=false) hn rfl) (nm_is (l:=[104,105,103,104,101,115,116,77,97,120]) (b:=true) hn rfl) hf hok h20 hcap hle hr hv
 rw[hrow] at h
 have e:(fun (a b:Sq)=>aheadB nm a.s.name b.s.name (ofR R8.by_ a.s.vals) (ofR R8.by_ b.s.vals))=(fun a b=>ltV R8.least (ofR R8.by_ a.s.vals) (ofR R8.by_ b.s.vals)):=by
  funext a b
  unfold aheadB
  rw[(nm_is (l:=[115,111,114,116,66,121,78,97,109,101]) (b:=false) hn rfl),(nm_is (l:=[115,111,114,116,66,121,77,105,110,105,109,97]) (b:=false) hn rfl),(nm_is (l:=[108,111,119,101,115,116,65,118,101,114,97,103,101]) (b:=false) hn rfl),(nm_is (l:=[108,111,119,101,115,116,67,117,114,114,101,110,116]) (b:=false) hn rfl)]
  rfl
 rw[e] at h
 exact h)
theorem pick_9:PickR R9:= .inr (fun nm text k A c L w hn hrow hf hok h20 hcap hle hr hv=>by
 exact rapply_lim nm text k A c L w (nm_is (l:=[103,114,101,112]) (b:=false) hn rfl) (nm_is (l:=[101,120,99,108,117,100,101]) (b:=false) hn rfl) (nm_is (l:=[108,105,109,105,116]) (b:=true) hn rfl) hf hok h20 hcap hle hr hv)
theorem pick_10:PickR R10:= .inr (fun nm text k A c L w hn hrow hf hok h20 hcap hle hr hv=>by
 have h:=rapply_p10 nm text k A c L w (nm_is (l:=[103,114,101,112]) (b:=false) hn rfl) (nm_is (l:=[101,120,99,108,117,100,101]) (b:=false) hn rfl) (nm_is (l:=[108,105,109,105,116]) (b:=false) hn rfl) (nm_is (l:=[115,111,114,116,66,121,78,97,109,101]) (b:=false) hn rfl) (nm_is (l:=[115,111,114,116,66,121,77,97,120,105,109,97]) (b:=false) hn rfl) (nm_is (l:=[115,111,114,116,66,121,77,105,110,105,109,97]) (b:=false) hn rfl) (nm_is (l:=[115,111,114,116,66,121,84,111,116,97,108]) (b:=false) hn rfl) (nm_is (l:=[104,105,103,104,101,115,116,77,97,120]) (b:=false) hn rfl) (nm_is (l:=[104,105,103,104,101,115,116,65,118,101,114,97,103,101]) (b:=false) hn rfl) (nm_is (l:=[104,105,103,104,101,115,116,67,117,114,114,101,110,116]) (b:=false) hn rfl) (nm_is (l:=[108,111,119,101,115,116,65,118,101,114,97,103,101]) (b:=true) hn rfl) hf hok h20 hcap hle hr hv
 rw[hrow] at h
 have e:(fun (a b:Sq)=>aheadB nm a.s.name b.s.name (ofR R10.by_ a.s.vals) (ofR R10.by_ b.s.vals))=(fun a b=>ltV R10.least (ofR R10.by_ a.s.vals) (ofR R10.by_ b.s.vals)):=by
  funext a b
  unfold aheadB
  rw[(nm_is (l:=[115,111,114,116,66,121,78,97,109,101]) (b:=false) hn rfl),(nm_is (l:=[115,111,114,116,66,121,77,105,110,105,109,97]) (b:=false) hn rfl),(nm_is (l:=[108,111,119,101,115,116,65,118,101,114,97,103,101]) (b:=true) hn rfl),(nm_is (l:=[108,111,119,101,115,116,67,117,114,114,101,110,116]) (b:=false) hn rfl)]
  rfl
 rw[e] at h
 exact h)
theorem pick_11:PickR R11:= .inr (fun nm text k A c L w hn hrow hf hok h20 hcap hle hr hv=>by
 have h:=rapply_p11 nm text k A c L w (nm_is (l:=[103,114,101,112]) (b:=false) hn rfl) (nm_is (l:=[101,120,99,108,117,100,101]) (b:=false) hn rfl) (nm_is (l:=[108,105,109,105,116]) (b:=false) hn rfl) (nm_is (l:=[115,111,114,116,66,121,78,97,109,101]) (b:=false) hn rfl) (nm_is (l:=[115,111,114,116,66,121,77,97,120,105,109,97]) (b:=false) hn rfl) (nm_is (l:=[115,111,114,116,66,121,77,105,110,105,109,97]) (b:=false) hn rfl) (nm_is (l:=[115,111,114,116,66,121,84,111,116,97,108]) (b:=false) hn rfl) (nm_is (l:=[104,105,103,104,101,115,116,77,97,120]) (b:=false) hn rfl) (nm_is (l:=[104,105,103,104,101,115,116,65,118,101,114,97,103,101]) (b:=false) hn rfl) (nm_is (l:=[104,105,103,104,101,115,116,67,117,114,114,101,110,116]) (b:=false) hn rfl) (nm_is (l:=[108,111,119,101,115,116,65,118,101,114,97,103,101]) (b:=false) hn rfl) (nm_is (l:=[108,111,119,101,115,116,67,117,114,114,101,110,116]) (b:=true) hn rfl) hf hok h20 hcap hle hr hv
 rw[hrow] at h
 have e:(fun (a b:Sq)=>aheadB nm a.s.name b.s.name (ofR R11.by_ a.s.vals) (ofR R11.by_ b.s.vals))=(fun a b=>ltV R11.least (ofR R11.by_ a.s.vals) (ofR R11.by_ b.s.vals)):=by
  funext a b
  unfold aheadB
  rw[(nm_is (l:=[115,111,114,116,66,121,78,97,109,101]) (b:=false) hn rfl),(nm_is (l:=[115,111,114,116,66,121,77,105,110,105,109,97]) (b:=false) hn rfl),(nm_is (l:=[108,111,119,101,115,116,65,118,101,114,97,103,101]) (b:=false) hn rfl),(nm_is (l:=[108,111,119,101,115,116,67,117,114,114,101,110,116]) (b:=true) hn rfl)]
  rfl
 rw[e] at h
 exact h)
theorem pick_12:PickR R12:= .inr (fun nm text k A c L w hn hrow hf hok h20 hcap hle hr hv=>by
 have h:=rapply_k nm text k A c L w (nm_is (l:=[103,114,101,112]) (b:=false) hn rfl) (nm_is (l:=[101,120,99,108,117,100,101]) (b:=false) hn rfl) (nm_is (l:=[108,105,109,105,116]) (b:=false) hn rfl) (nm_is (l:=[115,111,114,116,66,121,78,97,109,101]) (b:=false) hn rfl) (nm_is (l:=[115,111,114,116,66,121,77,97,120,105,109,97]) (b:=false) hn rfl) (nm_is (l:=[115,111,114,116,66,121,77,105,110,105,109,97]) (b:=false) hn rfl) (nm_is (l:=[115,111,114,116,66,121,84,111,116,97,108]) (b:=false) hn rfl) (nm_is (l:=[104,105,103,104,101,115,116,77,97,120]) (b:=false) hn rfl) (nm_is (l:=[104,105,103,104,101,115,116,65,118,101,114,97,103,101]) (b:=false) hn rfl) (nm_is (l:=[104,105,103,104,101,115,116,67,117,114,114,101,110,116]) (b:=false) hn rfl) (nm_is (l:=[108,111,119,101,115,116,65,118,101,114,97,103,101]) (b:=false) hn rfl) (nm_is (l:=[108,111,119,101,115,116,67,117,114,114,101,110,116]) (b:=false) hn rfl) (nm_is (l:=[109,111,115,116,68,101,118,105,97,110,116]) (b:=false) hn rfl) hf hok h20 hcap hle hr hv
 rw[hrow] at h
 have e:(fun (x:Sq)=>keepsB nm k (ofR R12.by_ x.s.vals) x.s.vals)=(fun x=>lessB (normV k) (ofR R12.by_ x.s.vals)):=by
  funext x
  unfold keepsB
  rw[(nm_is (l:=[114,101,109,111,118,101,69,109,112,116,121,83,101,114,105,101,115]) (b:=false) hn rfl),(nm_is (l:=[97,118,101,114,97,103,101,65,98,111,118,101]) (b:=false) hn rfl),(nm_is (l:=[99,117,114,114,101,110,116,65,98,111,118,101]) (b:=false) hn rfl),(nm_is (l:=[109,97,120,105,109,117,109,65,98,111,118,101]) (b:=true) hn rfl),(nm_is (l:=[109,105,110,105,109,117,109,65,98,111,118,101]) (b:=false) hn rfl)]
  exact above_eq k _
 rw[e] at h
 exact h)
theorem pick_13:PickR R13:= .inr (fun nm text k A c L w hn hrow hf hok h20 hcap hle hr hv=>by
 have h:=rapply_k nm text k A c L w (nm_is (l:=[103,114,101,112]) (b:=false) hn rfl) (nm_is (l:=[101,120,99,108,117,100,101]) (b:=false) hn rfl) (nm_is (l:=[108,105,109,105,116]) (b:=false) hn rfl) (nm_is (l:=[115,111,114,116,66,121,78,97,109,101]) (b:=false) hn rfl) (nm_is (l:=[115,111,114,116,66,121,77,97,120,105,109,97]) (b:=false) hn rfl) (nm_is (l:=[115,111,114,116,66,121,77,105,110,105,109,97]) (b:=false) hn rfl) (nm_is (l:=[115,111,114,116,66,121,84,111,116,97,108]) (b:=false) hn rfl) (nm_is (l:=[104,105,103,104,101,115,116,77,97,120]) (b:=false) hn rfl) (nm_is (l:=[104,105,103,104,101,115,116,65,118,101,114,97,103,101]) (b:=false) hn rfl) (nm_is (l:=[104,105,103,104,101,115,116,67,117,114,114,101,110,116]) (b:=false) hn rfl) (nm_is (l:=[108,111,119,101,115,116,65,118,101,114,97,103,101]) (b:=false) hn rfl) (nm_is (l:=[108,111,119,101,115,116,67,117,114,114,101,110,116]) (b:=false) hn rfl) (nm_is (l:=[109,111,115,116,68,101,118,105,97,110,116]) (b:=false) hn rfl) hf hok h20 hcap hle hr hv
 rw[hrow] at h
 have e:(fun (x:Sq)=>keepsB nm k (ofR R13.by_ x.s.vals) x.s.vals)=(fun x=>(ofR R13.by_ x.s.vals).ok&&((normV k).ok&&decide ((ofR R13.by_ x.s.vals).n≤(normV k).n))):=by
  funext x
  unfold keepsB
  rw[(nm_is (l:=[114,101,109,111,118,101,69,109,112,116,121,83,101,114,105,101,115]) (b:=false) hn rfl),(nm_is (l:=[97,118,101,114,97,103,101,65,98,111,118,101]) (b:=false) hn rfl),(nm_is (l:=[99,117,114,114,101,110,116,65,98,111,118,101]) (b:=false) hn rfl),(nm_is (l:=[109,97,120,105,109,117,109,65,98,111,118,101]) (b:=false) hn rfl),(nm_is (l:=[109,105,110,105,109,117,109,65,98,111,118,101]) (b:=false) hn rfl)]
  exact below_eq k _ (ofR_isB _ _)
 rw[e] at h
 exact h)
theorem pick_14:PickR R14:= .inr (fun nm text k A c L w hn hrow hf hok h20 hcap hle hr hv=>by
 have h:=rapply_k nm text k A c L w (nm_is (l:=[103,114,101,112]) (b:=false) hn rfl) (nm_is (l:=[101,120,99,108,117,100,101]) (b:=false) hn rfl) (nm_is (l:=[108,105,109,105,116]) (b:=false) hn rfl) (nm_is (l:=[115,111,114,116,66,121,78,97,109,101]) (b:=false) hn rfl) (nm_is (l:=[115,111,114,116,66,121,77,97,120,105,109,97]) (b:=false) hn rfl) (nm_is (l:=[115,111,114,116,66,121,77,105,110,105,109,97]) (b:=false) hn rfl) (nm_is (l:=[115,111,114,116,66,121,84,111,116,97,108]) (b:=false) hn rfl) (nm_is (l:=[104,105,103,104,101,115,116,77,97,120]) (b:=false) hn rfl) (nm_is (l:=[104,105,103,104,101,115,116,65,118,101,114,97,103,101]) (b:=false) hn rfl) (nm_is (l:=[104,105,103,104,101,115,116,67,117,114,114,101,110,116]) (b:=false) hn rfl) (nm_is (l:=[108,111,119,101,115,116,65,118,101,114,97,103,101]) (b:=false) hn rfl) (nm_is (l:=[108,111,119,101,115,116,67,117,114,114,101,110,116]) (b:=false) hn rfl) (nm_is (l:=[109,111,115,116,68,101,118,105,97,110,116]) (b:=false) hn rfl) hf hok h20 hcap hle hr hv
 rw[hrow] at h
 have e:(fun (x:Sq)=>keepsB nm k (ofR R14.by_ x.s.vals) x.s.vals)=(fun x=>lessB (normV k) (ofR R14.by_ x.s.vals)):=by
  funext x
  unfold keepsB
  rw[(nm_is (l:=[114,101,109,111,118,101,69,109,112,116,121,83,101,114,105,101,115]) (b:=false) hn rfl),(nm_is (l:=[97,118,101,114,97,103,101,65,98,111,118,101]) (b:=false) hn rfl),(nm_is (l:=[99,117,114,114,101,110,116,65,98,111,118,101]) (b:=false) hn rfl),(nm_is (l:=[109,97,120,105,109,117,109,65,98,111,118,101]) (b:=false) hn rfl),(nm_is (l:=[109,105,110,105,109,117,109,65,98,111,118,101]) (b:=true) hn rfl)]
  exact above_eq k _
 rw[e] at h
 exact h)
theorem pick_15:PickR R15:= .inr (fun nm text k A c L w hn hrow hf hok h20 hcap hle hr hv=>by
 have h:=rapply_k nm text k A c L w (nm_is (l:=[103,114,101,112]) (b:=false) hn rfl) (nm_is (l:=[101,120,99,108,117,100,101]) (b:=false) hn rfl) (nm_is (l:=[108,105,109,105,116]) (b:=false) hn rfl) (nm_is (l:=[115,111,114,116,66,121,78,97,109,101]) (b:=false) hn rfl) (nm_is (l:=[115,111,114,116,66,121,77,97,120,105,109,97]) (b:=false) hn rfl) (nm_is (l:=[115,111,114,116,66,121,77,105,110,105,109,97]) (b:=false) hn rfl) (nm_is (l:=[115,111,114,116,66,121,84,111,116,97,108]) (b:=false) hn rfl) (nm_is (l:=[104,105,103,104,101,115,116,77,97,120]) (b:=false) hn rfl) (nm_is (l:=[104,105,103,104,101,115,116,65,118,101,114,97,103,101]) (b:=false) hn rfl) (nm_is (l:=[104,105,103,104,101,115,116,67,117,114,114,101,110,116]) (b:=false) hn rfl) (nm_is (l:=[108,111,119,101,115,116,65,118,101,114,97,103,101]) (b:=false) hn rfl) (nm_is (l:=[108,111,119,101,115,116,67,117,114,114,101,110,116]) (b:=false) hn rfl) (nm_is (l:=[109,111,115,116,68,101,118,105,97,110,116]) (b:=false) hn rfl) hf hok h20 hcap hle hr hv
 rw[hrow] at h
 have e:(fun (x:Sq)=>keepsB nm k (ofR R15.by_ x.s.vals) x.s.vals)=(fun x=>(ofR R15.by_ x.s.vals).ok&&((normV k).ok&&decide ((ofR R15.by_ x.s.vals).n≤(normV k).n))):=by
  funext x
  unfold keepsB
  rw[(nm_is (l:=[114,101,109,111,118,101,69,109,112,116,121,83,101,114,105,101,115]) (b:=false) hn rfl),(nm_is (l:=[97,118,101,114,97,103,101,65,98,111,118,101]) (b:=false) hn rfl),(nm_is (l:=[99,117,114,114,101,110,116,65,98,111,118,101]) (b:=false) hn rfl),(nm_is (l:=[109,97,120,105,109,117,109,65,98,111,118,101]) (b:=false) hn rfl),(nm_is (l:=[109,105,110,105,109,117,109,65,98,111,118,101]) (b:=false) hn rfl)]
  exact below_eq k _ (ofR_isB _ _)
 rw[e] at h
 exact h)
theorem pick_16:PickR R16:= .inr (fun nm text k A c L w hn hrow hf hok h20 hcap hle hr hv=>by
 have h:=rapply_p12 nm text k A c L w (nm_is (l:=[103,114,101,112]) (b:=false) hn rfl) (nm_is (l:=[101,120,99,108,117,100,101]) (b:=false) hn rfl) (nm_is (l:=[108,105,109,105,116]) (b:=false) hn rfl) (nm_is (l:=[115,111,114,116,66,121,78,97,109,101]) (b:=false) hn rfl) (nm_is (l:=[115,111,114,116,66,121,77,97,120,105,109,97]) (b:=false) hn rfl) (nm_is (l:=[115,111,114,116,66,121,77,105,110,105,109,97]) (b:=false) hn rfl) (nm_is (l:=[115,111,114,116,66,121,84,111,116,97,108]) (b:=false) hn rfl) (nm_is (l:=[104,105,103,104,101,115,116,77,97,120]) (b:=false) hn rfl) (nm_is (l:=[104,105,103,104,101,115,116,65,118,101,114,97,103,101]) (b:=false) hn rfl) (nm_is (l:=[104,105,103,104,101,115,116,67,117,114,114,101,110,116]) (b:=false) hn rfl) (nm_is (l:=[108,111,119,101,115,116,65,118,101,114,97,103,101]) (b:=false) hn rfl) (nm_is (l:=[108,111,119,101,115,116,67,117,114,114,101,110,116]) (b:=false) hn rfl) (nm_is (l:=[109,111,115,116,68,101,118,105,97,110,116]) (b:=true) hn rfl) hf hok h20 hcap hle hr hv
 rw[hrow] at h
 have e:(fun (a b:Sq)=>aheadB nm a.s.name b.s.name (ofR R16.by_ a.s.vals) (ofR R16.by_ b.s.vals))=(fun a b=>ltV R16.least (ofR R16.by_ a.s.vals) (ofR R16.by_ b.s.vals)):=by
  funext a b
  unfold aheadB
  rw[(nm_is (l:=[115,111,114,116,66,121,78,97,109,101]) (b:=false) hn rfl),(nm_is (l:=[115,111,114,116,66,121,77,105,110,105,109,97]) (b:=false) hn rfl),(nm_is (l:=[108,111,119,101,115,116,65,118,101,114,97,103,101]) (b:=false) hn rfl),(nm_is (l:=[108,111,119,101,115,116,67,117,114,114,101,110,116]) (b:=false) hn rfl)]
  rfl
 rw[e] at h
 exact h)
theorem pick_17:PickR R17:= .inr (fun nm text k A c L w hn hrow hf hok h20 hcap hle hr hv=>by
 have h:=rapply_k nm text k A c L w (nm_is (l:=[103,114,101,112]) (b:=false) hn rfl) (nm_is (l:=[101,120,99,108,117,100,101]) (b:=false) hn rfl) (nm_is (l:=[108,105,109,105,116]) (b:=false) hn rfl) (nm_is (l:=[115,111,114,116,66,121,78,97,109,101]) (b:=false) hn rfl) (nm_is (l:=[115,111,114,116,66,121,77,97,120,105,109,97]) (b:=false) hn rfl) (nm_is (l:=[115,111,114,116,66,121,77,105,110,105,109,97]) (b:=false) hn rfl) (nm_is (l:=[115,111,114,116,66,121,84,111,116,97,108]) (b:=false) hn rfl) (nm_is (l:=[104,105,103,104,101,115,116,77,97,120]) (b:=false) hn rfl) (nm_is (l:=[104,105,103,104,101,115,116,65,118,101,114,97,103,101]) (b:=false) hn rfl) (nm_is (l:=[104,105,103,104,101,115,116,67,117,114,114,101,110,116]) (b:=false) hn rfl) (nm_is (l:=[108,111,119,101,115,116,65,118,101,114,97,103,101]) (b:=false) hn rfl) (nm_is (l:=[108,111,119,101,115,116,67,117,114,114,101,110,116]) (b:=false) hn rfl) (nm_is (l:=[109,111,115,116,68,101,118,105,97,110,116]) (b:=false) hn rfl) hf hok h20 hcap hle hr hv
 rw[hrow] at h
 have e:(fun (x:Sq)=>keepsB nm k (ofR R17.by_ x.s.vals) x.s.vals)=(fun x=> !(kn x.s.vals).isEmpty):=by
  funext x
  unfold keepsB
  rw[(nm_is (l:=[114,101,109,111,118,101,69,109,112,116,121,83,101,114,105,101,115]) (b:=true) hn rfl),(nm_is (l:=[97,118,101,114,97,103,101,65,98,111,118,101]) (b:=false) hn rfl),(nm_is (l:=[99,117,114,114,101,110,116,65,98,111,118,101]) (b:=false) hn rfl),(nm_is (l:=[109,97,120,105,109,117,109,65,98,111,118,101]) (b:=false) hn rfl),(nm_is (l:=[109,105,110,105,109,117,109,65,98,111,118,101]) (b:=false) hn rfl)]
  rfl
 rw[e] at h
 exact h)
theorem pick_18:PickR R18:= .inr (fun nm text k A c L w hn hrow hf hok h20 hcap hle hr hv=>by
 have h:=rapply_s4 nm text k A c L w (nm_is (l:=[103,114,101,112]) (b:=false) hn rfl) (nm_is (l:=[101,120,99,108,117,100,101]) (b:=false) hn rfl) (nm_is (l:=[108,105,109,105,116]) (b:=false) hn rfl) (nm_is (l:=[115,111,114,116,66,121,78,97,109,101]) (b:=false) hn rfl) (nm_is (l:=[115,111,114,116,66,121,77,97,120,105,109,97]) (b:=true) hn rfl) hf hok h20 hcap hle hr hv
 rw[hrow] at h
 have e:(fun (a b:Sq)=>aheadB nm a.s.name b.s.name (ofR R18.by_ a.s.vals) (ofR R18.by_ b.s.vals))=(fun a b=>ltV R18.least (ofR R18.by_ a.s.vals) (ofR R18.by_ b.s.vals)):=by
  funext a b
  unfold aheadB
  rw[(nm_is (l:=[115,111,114,116,66,121,78,97,109,101]) (b:=false) hn rfl),(nm_is (l:=[115,111,114,116,66,121,77,105,110,105,109,97]) (b:=false) hn rfl),(nm_is (l:=[108,111,119,101,115,116,65,118,101,114,97,103,101]) (b:=false) hn rfl),(nm_is (l:=[108,111,119,101,115,116,67,117,114,114,101,110,116]) (b:=false) hn rfl)]
  rfl
 rw[e] at h
 exact h)
theorem pick_19:PickR R19:= .inr (fun nm text k A c L w hn hrow hf hok h20 hcap hle hr hv=>by
 have h:=rapply_s5 nm text k A c L w (nm_is (l:=[103,114,101,112]) (b:=false) hn rfl) (nm_is (l:=[101,120,99,108,117,100,101]) (b:=false) hn rfl) (nm_is (l:=[108,105,109,105,116]) (b:=false) hn rfl) (nm_is (l:=[115,111,114,116,66,121,78,97,109,101]) (b:=false) hn rfl) (nm_is (l:=[115,111,114,116,66,121,77,97,120,105,109,97]) (b:=false) hn rfl) (nm_is (l:=[115,111,114,116,66,121,77,105,110,105,109,97]) (b:=true) hn rfl) hf hok h20 hcap hle hr hv
 rw[hrow] at h
 have e:(fun (a b:Sq)=>aheadB nm a.s.name b.s.name (ofR R19.by_ a.s.vals) (ofR R19.by_ b.s.vals))=(fun a b=>ltV R19.least (ofR R19.by_ a.s.vals) (ofR R19.by_ b.s.vals)):=by
  funext a b
  unfold aheadB
  rw[(nm_is (l:=[115,111,114,116,66,121,78,97,109,101]) (b:=false) hn rfl),(nm_is (l:=[115,111,114,116,66,121,77,105,110,105,109,97]) (b:=true) hn rfl),(nm_is (l:=[108,111,119,101,115,116,65,118,101,114,97,103,101]) (b:=false) hn rfl),(nm_is (l:=[108,111,119,101,115,116,67,117,114,114,101,110,116]) (b:=false) hn rfl)]
  rfl
 rw[e] at h
 exact h)
theorem pick_20:PickR R20:= .inr (fun nm text k A c L w hn hrow hf hok h20 hcap hle hr hv=>by
 have h:=rapply_s3 nm text k A c L w (nm_is (l:=[103,114,101,112]) (b:=false) hn rfl) (nm_is (l:=[101,120,99,108,117,100,101]) (b:=false) hn rfl) (nm_is (l:=[108,105,109,105,116]) (b:=false) hn rfl) (nm_is (l:=[115,111,114,116,66,121,78,97,109,101]) (b:=true) hn rfl) hf hok h20 hcap hle hr hv
 rw[hrow] at h
 have e:(fun (a b:Sq)=>aheadB nm a.s.name b.s.name (ofR R20.by_ a.s.vals) (ofR R20.by_ b.s.vals))=(fun a b=>ltN a.s.name b.s.name):=by
  funext a b
  unfold aheadB
  rw[(nm_is (l:=[115,111,114,116,66,121,78,97,109,101]) (b:=true) hn rfl),(nm_is (l:=[115,111,114,116,66,121,77,105,110,105,109,97]) (b:=false) hn rfl),(nm_is (l:=[108,111,119,101,115,116,65,118,101,114,97,103,101]) (b:=false) hn rfl),(nm_is (l:=[108,111,119,101,115,116,67,117,114,114,101,110,116]) (b:=false) hn rfl)]
  rfl
 rw[e] at h
 exact h)
theorem pick_21:PickR R21:= .inr (fun nm text k A c L w hn hrow hf hok h20 hcap hle hr hv=>by
 have h:=rapply_s6 nm text k A c L w (nm_is (l:=[103,114,101,112]) (b:=false) hn rfl) (nm_is (l:=[101,120,99,108,117,100,101]) (b:=false) hn rfl) (nm_is (l:=[108,105,109,105,116]) (b:=false) hn rfl) (nm_is (l:=[115,111,114,116,66,121,78,97,109,101]) (b:=false) hn rfl) (nm_is (l:=[115,111,114,116,66,121,77,97,120,105,109,97]) (b:=false) hn rfl) (nm_is (l:=[115,111,114,116,66,121,77,105,110,105,109,97]) (b:=false) hn rfl) (nm_is (l:=[115,111,114,116,66,121,84,111,116,97,108]) (b:=true) hn rfl) hf hok h20 hcap hle hr hv
 rw[hrow] at h
 have e:(fun (a b:Sq)=>aheadB nm a.s.name b.s.name (ofR R21.by_ a.s.vals) (ofR R21.by_ b.s.vals))=(fun a b=>ltV R21.least (ofR R21.by_ a.s.vals) (ofR R21.by_ b.s.vals)):=by
  funext a b
  unfold aheadB
  rw[(nm_is (l:=[115,111,114,116,66,121,78,97,109,101]) (b:=false) hn rfl),(nm_is (l:=[115,111,114,116,66,121,77,105,110,105,109,97]) (b:=false) hn rfl),(nm_is (l:=[108,111,119,101,115,116,65,118,101,114,97,103,101]) (b:=false) hn rfl),(nm_is (l:=[108,111,119,101,115,116,67,117,114,114,101,110,116]) (b:=false) hn rfl)]
  rfl
 rw[e] at h
 exact h)
theorem pick_rows:∀r∈rowsL,PickR r:=rows_split pick_0 pick_1 pick_2 pick_3 pick_4 pick_5 pick_6 pick_7 pick_8 pick_9 pick_10 pick_11 pick_12 pick_13 pick_14 pick_15 pick_16 pick_17 pick_18 pick_19 pick_20 pick_21
end Go.Proofs.YtnphdacibageiaaGreat
