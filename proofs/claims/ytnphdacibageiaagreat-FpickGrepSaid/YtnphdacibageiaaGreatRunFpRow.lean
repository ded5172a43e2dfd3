import Derived.Test.YtnphdacibageiaaGreatRunFxBase
import Derived.Outline
import Derived.Deep.RegionHeld3
import Derived.IntWalk
import Derived.Lib.Hide
import Derived.BigQuiet
import Derived.Lib.SliceRun
import Derived.Deep.Quiet
import Derived.OrdersHeld
import Derived.Deep.RegionHeld
import Derived.StillTail
set_option linter.all false
set_option maxRecDepth 1000000
set_option maxHeartbeats 12800000
namespace Go.Proofs.YtnphdacibageiaaGreat
open Go.RowKit
def rowcells (L:List Fr):List Value:=L.flatMap fun r=>[.string r.nm, .int .i64 r.kind, .int .i64 r.by_, .bool r.least]
theorem rowcells_cons (r:Fr) (L:List Fr):rowcells (r::L)= .string r.nm :: .int .i64 r.kind :: .int .i64 r.by_ :: .bool r.least::rowcells L:=rfl
theorem rowcells_length (L:List Fr):(rowcells L).length=L.length*4:=by
 induction L with
 | nil=>rfl
 | cons v l ih=>rw[rowcells_cons];simp only[List.length_cons,ih];omega
theorem rowcells_at (L:List Fr):∀(k:Nat) (h:k<L.length),(rowcells L)[k*4]?=some (.string L[k].nm)∧(rowcells L)[k*4+1]?=some (.int .i64 L[k].kind)∧(rowcells L)[k*4+2]?=some (.int .i64 L[k].by_)∧(rowcells L)[k*4+3]?=some (.bool L[k].least):=by
 induction L with
 | nil=>intro k h;simp at h
 | cons v l ih=>
  intro k h
  rw[rowcells_cons]
  match k,h with
  | 0,_=>exact ⟨rfl,rfl,rfl,rfl⟩
  | k+1,h=>
   have hk:k<l.length:=by simp only[List.length_cons] at h;omega
   have e:(k+1)*4=k*4+1+1+1+1:=by omega
   have e2:k*4+1+1+1+1+2=k*4+2+1+1+1+1:=by omega
   have e3:k*4+1+1+1+1+3=k*4+3+1+1+1+1:=by omega
   rw[e,e2,e3]
   simp only[List.getElem?_cons_succ,List.getElem_cons_succ]
   exact ih k hk
def Rr (w:World) (A:Option Addr) (L:List Fr):Prop:=Rd w 4 A L.length (rowcells L)
theorem Rr.gr {w w':World} {A:Option Addr} {L:List Fr} (h:Rr w A L) (g:Gr w w'):Rr w' A L:=Rd.gr h g
theorem Rr.at {w:World} {A:Option Addr} {L:List Fr} (h:Rr w A L) {k:Nat} (hk:k<L.length):∃ad:Addr,A=some ad∧ad.block<w.heap.size∧w.cell? (ad.add (k*4))=some (.string L[k].nm)∧w.cell? ⟨(ad.add (k*4)).block,(ad.add (k*4)).off+1,none⟩=some (.int .i64 L[k].kind)∧w.cell? ⟨(ad.add (k*4)).block,(ad.add (k*4)).off+2,none⟩=some (.int .i64 L[k].by_)∧w.cell? ⟨(ad.add (k*4)).block,(ad.add (k*4)).off+3,none⟩=some (.bool L[k].least):=by
 obtain ⟨ad,e,hb,hc⟩:=h.2 (by omega)
 obtain ⟨s0,s1,s2,s3⟩:=rowcells_at L k hk
 exact ⟨ad,e,hb,hc _ _ s0,(congrArg w.cell? (add_next ad (k*4) 0)).symm.trans (hc _ _ s1),(congrArg w.cell? (add_next ad (k*4) 1)).symm.trans (hc _ _ s2),(congrArg w.cell? (add_next ad (k*4) 2)).symm.trans (hc _ _ s3)⟩
theorem Rd.new {W:World} {B size n:Nat} (hB:B=W.heap.size) (T:TypeId) (xs:List Value) (hl:xs.length=n*size):Rd (W.alloc (.cells xs.toArray T)) size (some ⟨B,0,none⟩) n xs:=by
 subst hB
 refine ⟨hl,fun _=>⟨_,rfl,by simp,fun j u hu=>?_⟩⟩
 have e:(⟨W.heap.size,0,none⟩:Addr).add j=⟨W.heap.size,j,none⟩:=by
  unfold Addr.add;split
  ·
   rename_i h;subst h;rfl
  ·
   rw[Nat.zero_add]
 rw[e]
 exact (cell_of_row _ _ _ _ _ _ (heap_alloc_new W _)).trans (by simpa using hu)
def RetRows (w:World) (e:Ending) (w':World):Prop:=∃A,e= .returned (.slice A rowsL.length 22)∧Rr w' A rowsL∧Gr w w'
theorem rows_any (w:World):Calls Tryz.prog 16 #[] w (RetRows w):=by
 go_enter Tryz.func16,Tryz.ntmps16
 go_wp2
 go_ret
 exact ⟨_,rfl,Rd.new rfl _ (rowcells rowsL) (rowcells_length _),Gr.alloc (Gr.refl _) _⟩
theorem look_any (r:Fr) (B:Nat) (nm:ByteArray) (w:World) (hB:w.cell? ⟨B,0,none⟩=some (.string nm)) (hlt:B<w.heap.size) :
  Calls Tryz.prog 41 #[.agg #[.string r.nm, .int .i64 r.kind, .int .i64 r.by_, .bool r.least], .pointer (some ⟨B,0,none⟩)] w fun e w'=>e= .returned (.bool (isNm nm r))∧Gr w w':=by
 go_enter Tryz.func41,Tryz.ntmps41
 go_wp2
 go_ret
 exact ⟨rfl,gq⟩
def RetIdx (nm:ByteArray) (L:List Fr) (w:World) (e:Ending) (w':World):Prop:=
 ∃k:Int,e= .returned (.int .i64 k)∧((k= -1∧∀j (h:j<L.length),isNm nm L[j]=false)∨∃(i:Nat) (h:i<L.length),k=i∧isNm nm L[i]=true∧∀j (hj:j<L.length),j<i→isNm nm L[j]=false)∧Gr w w'
theorem idxr_any (A:Option Addr) (c:Nat) (L:List Fr) (B:Nat) (nm:ByteArray) (w:World) (hl:L.length≤100) (hr:Rr w A L) (hB:w.cell? ⟨B,0,none⟩=some (.string nm)) (hlt:B<w.heap.size) :
  Calls Tryz.prog 40 #[.slice A L.length c, .func (.func 41) #[] #[.pointer (some ⟨B,0,none⟩)]] w (RetIdx nm L w):=by
 have hl':(L.length:Int)≤100:=by omega
 have HB:=Lib.hid hB
 clear hB hl
 go_enter Tryz.func40,Tryz.ntmps40
 go_wp2
 go_loopw [5,8] (fun _ i wr=>∃k:Nat,k≤L.length∧i= .int .i64 k∧Gr w wr∧Hid (∀j (h:j<L.length),j<k→isNm nm L[j]=false)) (fun _ i _=>L.length-(intOf i).toNat)
 case atStart=>exact ⟨0,Nat.zero_le _,rfl,Gr.refl _,Lib.hid (fun j _ h=>absurd h (Nat.not_lt_zero _))⟩
 case round=>
  obtain ⟨k,hk,rfl,hgr,ha⟩:=hrel
  by_cases hlt2:k<L.length
  ·
   obtain ⟨ad,rfl,hb,hx0,hx1,hx2,hx3⟩:=(hr.gr hgr).at hlt2
   have Q:=fun w hB hlt=>look_any L[k] B nm w hB hlt
   cases hx:isNm nm L[k]
   ·
    have Ht:Hid (∀j (h:j<L.length),j<k+1→isNm nm L[j]=false):=Lib.hid (fun j h hj=>by
     by_cases e:j=k
     ·
      subst e;exact hx
     ·
      exact ha.out j h (by omega))
    simp only[hx] at Q
    clear hx
    go_wp2_with fail
    refine (Q _ ((hgr.cell (p:=⟨B,0,none⟩) hlt).trans HB.out) (Nat.lt_of_lt_of_le hlt hgr.size)).mono ?_;rintro e w1 ⟨rfl,hg⟩
    go_wp2
    go_roundw
    case rel=>exact ⟨k+1,by omega,by go_num,gq,Ht⟩
    case measure=>simp[intOf];omega
   ·
    have Ht:Hid (isNm nm L[k]=true):=Lib.hid hx
    simp only[hx] at Q
    clear hx
    go_wp2_with fail
    refine (Q _ ((hgr.cell (p:=⟨B,0,none⟩) hlt).trans HB.out) (Nat.lt_of_lt_of_le hlt hgr.size)).mono ?_;rintro e w1 ⟨rfl,hg⟩
    go_wp2
    go_ret
    exact ⟨_,rfl, .inr ⟨k,hlt2,rfl,Ht.out,ha.out⟩,gq⟩
  ·
   have hkk:k=L.length:=by omega
   subst hkk
   go_wp2
   go_ret
   exact ⟨_,rfl, .inl ⟨rfl,fun j h=>ha.out j h h⟩,hgr⟩
theorem find_none {nm:ByteArray} {L:List Fr} (h:∀j (h:j<L.length),isNm nm L[j]=false):L.find? (isNm nm)=none:=by
 rw[List.find?_eq_none]
 intro x hx
 obtain ⟨j,hj,rfl⟩:=List.getElem_of_mem hx
 rw[h j hj];decide
theorem find_some {nm:ByteArray} {L:List Fr} {i:Nat} (hi:i<L.length) (h:isNm nm L[i]=true) (hb:∀j (hj:j<L.length),j<i→isNm nm L[j]=false):L.find? (isNm nm)=some L[i]:=by
 rw[List.find?_eq_some_iff_getElem]
 refine ⟨h,i,hi,rfl,fun j hj=>?_⟩
 rw[hb j (Nat.lt_trans hj hi) hj];rfl
def aggFr (r:Fr):Value:= .agg #[.string r.nm, .int .i64 r.kind, .int .i64 r.by_, .bool r.least]
def RetFind (nm:ByteArray) (w:World) (e:Ending) (w':World):Prop:=e= .returned (.tuple #[aggFr (rowF nm), .bool (findF nm).isSome])∧Gr w w'
theorem find_any (nm:ByteArray) (w:World):Calls Tryz.prog 18 #[.string nm] w (RetFind nm w):=by
 go_enter Tryz.func18,Tryz.ntmps18
 go_wp2_with fail
 refine (rows_any _).mono ?_;rintro e w1 ⟨A1,rfl,hrr,hg1⟩
 have hgw:Gr w w1:=gq
 have z1:=hg1.size
 simp at z1
 have z0:w.heap.size<w1.heap.size:=by omega
 have z2:w.heap.size+1<w1.heap.size:=by omega
 have q0:w1.cell? ⟨w.heap.size,0,none⟩=some (.string nm):=(hg1.cell (p:=⟨w.heap.size,0,none⟩) (by simp;omega)).trans (by go_simp)
 have p0:w1.cell? ⟨w.heap.size+1,0,none⟩=some (.string ⟨#[]⟩):=(hg1.cell (p:=⟨w.heap.size+1,0,none⟩) (by simp)).trans (by go_simp)
 have p1:w1.cell? ⟨w.heap.size+1,1,none⟩=some (.int .i64 0):=(hg1.cell (p:=⟨w.heap.size+1,1,none⟩) (by simp)).trans (by go_simp)
 have p2:w1.cell? ⟨w.heap.size+1,2,none⟩=some (.int .i64 0):=(hg1.cell (p:=⟨w.heap.size+1,2,none⟩) (by simp)).trans (by go_simp)
 have p3:w1.cell? ⟨w.heap.size+1,3,none⟩=some (.bool false):=(hg1.cell (p:=⟨w.heap.size+1,3,none⟩) (by simp)).trans (by go_simp)
 have g0:w1.frozen? ⟨w.heap.size+1,0,none⟩=false:=(hg1.frozen (p:=⟨w.heap.size+1,0,none⟩) (by simp)).trans (by go_simp)
 have g1:w1.frozen? ⟨w.heap.size+1,1,none⟩=false:=(hg1.frozen (p:=⟨w.heap.size+1,1,none⟩) (by simp)).trans (by go_simp)
 have g2:w1.frozen? ⟨w.heap.size+1,2,none⟩=false:=(hg1.frozen (p:=⟨w.heap.size+1,2,none⟩) (by simp)).trans (by go_simp)
 have g3:w1.frozen? ⟨w.heap.size+1,3,none⟩=false:=(hg1.frozen (p:=⟨w.heap.size+1,3,none⟩) (by simp)).trans (by go_simp)
 clear hg1 z1
 go_wp2_with fail
 refine (idxr_any A1 22 rowsL w.heap.size nm w1 (by decide) hrr q0 z0).mono ?_;rintro e w2 ⟨k,rfl,hk,hg2⟩
 obtain ⟨hc,hf⟩:=hg2.cells
 have z1:=hg2.size
 have hrr2:=hrr.gr hg2
 have z3:w.heap.size+1<w2.heap.size:=by omega
 replace p0:=(hg2.cell (p:=⟨w.heap.size+1,0,none⟩) z2).trans p0
 replace p1:=(hg2.cell (p:=⟨w.heap.size+1,1,none⟩) z2).trans p1
 replace p2:=(hg2.cell (p:=⟨w.heap.size+1,2,none⟩) z2).trans p2
 replace p3:=(hg2.cell (p:=⟨w.heap.size+1,3,none⟩) z2).trans p3
 replace g0:=(hg2.frozen (p:=⟨w.heap.size+1,0,none⟩) z2).trans g0
 replace g1:=(hg2.frozen (p:=⟨w.heap.size+1,1,none⟩) z2).trans g1
 replace g2:=(hg2.frozen (p:=⟨w.heap.size+1,2,none⟩) z2).trans g2
 replace g3:=(hg2.frozen (p:=⟨w.heap.size+1,3,none⟩) z2).trans g3
 have hgw2:=Gr.trans hgw hg2
 clear hc hf hrr hg2 hgw q0 z0 z1 z2
 rcases hk with ⟨rfl,hn⟩|⟨i,hi,rfl,hy,hb⟩
 ·
  have E:Hid (rowF nm=noFr∧(findF nm).isSome=false):=Lib.hid ⟨by unfold rowF findF;rw[find_none hn];rfl,by unfold findF;rw[find_none hn];rfl⟩
  clear hn hrr2
  go_wp2
  exact bodyPost_ret (v:= .tuple #[.agg #[.string ⟨#[]⟩, .int .i64 0, .int .i64 0, .bool false], .bool false]) (by simp[results,Tryz.results18,go_sem, *]) rfl ⟨by rw[E.out.1,E.out.2];rfl,gq⟩
 ·
  have E:Hid (rowF nm=rowsL[i]∧(findF nm).isSome=true):=Lib.hid ⟨by unfold rowF findF;rw[find_some hi hy hb];rfl,by unfold findF;rw[find_some hi hy hb];rfl⟩
  obtain ⟨ad,rfl,hbk,hx0,hx1,hx2,hx3⟩:=hrr2.at hi
  generalize rowsL[i]=r at hx0 hx1 hx2 hx3 E
  clear hy hb hrr2
  generalize rowsL.length=n at hi ⊢
  go_wp2
  exact bodyPost_ret (v:= .tuple #[.agg #[.string r.nm, .int .i64 r.kind, .int .i64 r.by_, .bool r.least], .bool true]) (by simp[results,Tryz.results18,go_sem, *]) rfl ⟨by rw[E.out.1,E.out.2];rfl,gq⟩
theorem all_take {l:List Vl} {k:Nat} (h:k<l.length):(l.take (k+1)).all isB=((l.take k).all isB&&isB l[k]):=by
 rw[List.take_succ_eq_append_getElem h,List.all_append];simp
theorem all_no {l:List Vl} {k:Nat} (h:k<l.length) (hb:isB l[k]=false):l.all isB=false:=by
 cases hq:l.all isB
 ·
  rfl
 ·
  rw[List.all_eq_true.1 hq _ (List.getElem_mem h)] at hb;cases hb
theorem isf_any (v:Vl) (w:World):Calls Tryz.prog 44 #[.agg #[.bool v.ok, .int .i64 v.n]] w fun e w'=>e= .returned (.bool (!isB v))∧Gr w w':=by
 go_enter Tryz.func44,Tryz.ntmps44
 go_wp2_with fail
 refine (is_any v.ok v.n _).mono ?_;rintro e w1 ⟨rfl,hg⟩
 show _
 cases h:isB ⟨v.ok,v.n⟩
 all_goals
  go_wp2
  go_ret
  refine ⟨?_,gq⟩
  show _=Ending.returned (.bool (!isB ⟨v.ok,v.n⟩))
  rw[h]
  rfl
theorem idxf_any (A:Option Addr) (c:Nat) (l:List Vl) (w:World) (hl:(l.length:Int)≤131072) (hr:Rv w A l) :
  Calls Tryz.prog 77 #[.slice A l.length c, .func (.func 44) #[] #[]] w fun e w'=>(∃k:Int,e= .returned (.int .i64 k)∧(0≤k↔l.all isB=false))∧Gr w w':=by
 go_enter Tryz.func77,Tryz.ntmps77
 go_wp2
 go_loopw [5,8] (fun _ i wr=>∃k:Nat,k≤l.length∧i= .int .i64 k∧Gr w wr∧(l.take k).all isB=true) (fun _ i _=>l.length-(intOf i).toNat)
 case atStart=>exact ⟨0,Nat.zero_le _,rfl,Gr.refl _,rfl⟩
 case round=>
  obtain ⟨k,hk,rfl,hgr,ha⟩:=hrel
  by_cases hlt:k<l.length
  ·
   obtain ⟨ad,rfl,hb,hx0,hx1⟩:=(hr.gr hgr).at hlt
   have Ht:=all_take hlt
   rw[ha] at Ht
   have Ht:=Lib.hid Ht
   have Hn:=Lib.hid (all_no hlt)
   have Q:=fun w=>isf_any l[k] w
   clear ha
   cases hx:isB l[k]
   ·
    simp only[hx,Bool.not_false] at Q
    go_wp2_with fail
    refine (Q _).mono ?_;rintro e w1 ⟨rfl,hg⟩
    go_wp2
    go_ret
    exact ⟨⟨_,rfl,by simp[Hn.out hx]⟩,gq⟩
   ·
    simp only[hx,Bool.not_true] at Q
    go_wp2_with fail
    refine (Q _).mono ?_;rintro e w1 ⟨rfl,hg⟩
    go_wp2
    go_roundw
    case rel=>exact ⟨k+1,by omega,by go_num,gq,by rw[Ht.out,hx];rfl⟩
    case measure=>simp[intOf];omega
  ·
   have hkk:k=l.length:=by omega
   subst hkk
   rw[List.take_length] at ha
   have Ha:=Lib.hid ha;clear ha
   go_wp2
   go_ret
   exact ⟨⟨_,rfl,by rw[Ha.out];simp⟩,gq⟩
theorem conf_any (A:Option Addr) (c:Nat) (l:List Vl) (w:World) (hl:(l.length:Int)≤131072) (hr:Rv w A l) :
  Calls Tryz.prog 43 #[.slice A l.length c, .func (.func 44) #[] #[]] w fun e w'=>e= .returned (.bool (!l.all isB))∧Gr w w':=by
 go_enter Tryz.func43,Tryz.ntmps43
 go_wp2_with fail
 refine (idxf_any A c l _ hl hr).mono ?_;rintro e w1 ⟨⟨k,rfl,hk⟩,hg⟩
 have Hk:=Lib.hid hk;clear hk
 by_cases h0:0≤k
 ·
  go_wp2
  go_ret
  refine ⟨?_,hg⟩
  rw[Hk.out.1 h0]
  simp[h0]
 ·
  go_wp2
  go_ret
  refine ⟨?_,hg⟩
  have:l.all isB=true:=by
   cases hq:l.all isB
   ·
    exact absurd (Hk.out.2 hq) (by omega)
   ·
    rfl
  rw[this]
  simp[h0]
theorem sis_any (s:Sr) (A:Option Addr) (c:Nat) (w:World) (hr:Rv w A s.vals) :
  Calls Tryz.prog 21 #[.agg #[.string s.name, .int .i64 s.start, .int .i64 s.step, .slice A s.vals.length c, .int .i64 s.cons]] w fun e w'=>e= .returned (.bool (isS s))∧Gr w w':=by
 by_cases h_name:(s.name.size:Int)≤4096
 case neg=>
  have hS:isS s=false:=by
   cases h:isS s
   ·
    rfl
   ·
    exact absurd ((isS_iff s).1 h).name h_name
  rw[hS]
  clear hS
  go_enter Tryz.func21,Tryz.ntmps21
  go_wp2
  go_ret
  exact ⟨rfl,gq⟩
 by_cases h_s0:0≤s.start
 case neg=>
  have hS:isS s=false:=by
   cases h:isS s
   ·
    rfl
   ·
    exact absurd ((isS_iff s).1 h).s0 h_s0
  rw[hS]
  clear hS
  go_enter Tryz.func21,Tryz.ntmps21
  go_wp2
  go_ret
  exact ⟨rfl,gq⟩
 by_cases h_s1:s.start≤4294967295
 case neg=>
  have hS:isS s=false:=by
   cases h:isS s
   ·
    rfl
   ·
    exact absurd ((isS_iff s).1 h).s1 h_s1
  rw[hS]
  clear hS
  go_enter Tryz.func21,Tryz.ntmps21
  go_wp2
  go_ret
  exact ⟨rfl,gq⟩
 by_cases h_p0:1≤s.step
 case neg=>
  have hS:isS s=false:=by
   cases h:isS s
   ·
    rfl
   ·
    exact absurd ((isS_iff s).1 h).p0 h_p0
  rw[hS]
  clear hS
  go_enter Tryz.func21,Tryz.ntmps21
  go_wp2
  go_ret
  exact ⟨rfl,gq⟩
 by_cases h_p1:s.step≤1099511627776
 case neg=>
  have hS:isS s=false:=by
   cases h:isS s
   ·
    rfl
   ·
    exact absurd ((isS_iff s).1 h).p1 h_p1
  rw[hS]
  clear hS
  go_enter Tryz.func21,Tryz.ntmps21
  go_wp2
  go_ret
  exact ⟨rfl,gq⟩
 by_cases h_len:(s.vals.length:Int)≤131072
 case neg=>
  have hS:isS s=false:=by
   cases h:isS s
   ·
    rfl
   ·
    exact absurd ((isS_iff s).1 h).len h_len
  rw[hS]
  clear hS
  go_enter Tryz.func21,Tryz.ntmps21
  go_wp2
  go_ret
  exact ⟨rfl,gq⟩
 by_cases h_c0:0≤s.cons
 case neg=>
  have hS:isS s=false:=by
   cases h:isS s
   ·
    rfl
   ·
    exact absurd ((isS_iff s).1 h).c0 h_c0
  rw[hS]
  clear hS
  go_enter Tryz.func21,Tryz.ntmps21
  go_wp2
  go_ret
  exact ⟨rfl,gq⟩
 by_cases h_c1:s.cons≤5
 case neg=>
  have hS:isS s=false:=by
   cases h:isS s
   ·
    rfl
   ·
    exact absurd ((isS_iff s).1 h).c1 h_c1
  rw[hS]
  clear hS
  go_enter Tryz.func21,Tryz.ntmps21
  go_wp2
  go_ret
  exact ⟨rfl,gq⟩
 have hS:isS s=s.vals.all isB:=by
  cases h:s.vals.all isB
  ·
   cases h2:isS s
   ·
    rfl
   ·
    rw[((isS_iff s).1 h2).all] at h;cases h
  ·
   exact (isS_iff s).2 ⟨h_name,h_s0,h_s1,h_p0,h_p1,h_len,h_c0,h_c1,h⟩
 rw[hS]
 clear hS
 have Q:=fun w hr=>conf_any A c s.vals w h_len hr
 go_enter Tryz.func21,Tryz.ntmps21
 cases hall:s.vals.all isB
 all_goals
  simp only[hall,Bool.not_false,Bool.not_true] at Q
  go_wp2_with fail
  refine (Q _ ?hr).mono ?_
  case hr=>exact hr.gr gq
  rintro e w1 ⟨rfl,hg⟩
  go_wp2
  go_ret
  exact ⟨rfl,gq⟩
theorem rsis_any (s:Sr) (A:Option Addr) (c:Nat) (w:World) (hr:Rv w A s.vals) :
  Calls Tryz.prog 30 #[.agg #[.string s.name, .int .i64 s.start, .int .i64 s.step, .slice A s.vals.length c, .int .i64 s.cons]] w fun e w'=>e= .returned (.bool (isS s))∧Gr w w':=by
 by_cases h_name:(s.name.size:Int)≤4096
 case neg=>
  have hS:isS s=false:=by
   cases h:isS s
   ·
    rfl
   ·
    exact absurd ((isS_iff s).1 h).name h_name
  rw[hS]
  clear hS
  go_enter Tryz.func30,Tryz.ntmps30
  go_wp2
  go_ret
  exact ⟨rfl,gq⟩
 by_cases h_s0:0≤s.start
 case neg=>
  have hS:isS s=false:=by
   cases h:isS s
   ·
    rfl
   ·
    exact absurd ((isS_iff s).1 h).s0 h_s0
  rw[hS]
  clear hS
  go_enter Tryz.func30,Tryz.ntmps30
  go_wp2
  go_ret
  exact ⟨rfl,gq⟩
 by_cases h_s1:s.start≤4294967295
 case neg=>
  have hS:isS s=false:=by
   cases h:isS s
   ·
    rfl
   ·
    exact absurd ((isS_iff s).1 h).s1 h_s1
  rw[hS]
  clear hS
  go_enter Tryz.func30,Tryz.ntmps30
  go_wp2
  go_ret
  exact ⟨rfl,gq⟩
 by_cases h_p0:1≤s.step
 case neg=>
  have hS:isS s=false:=by
   cases h:isS s
   ·
    rfl
   ·
    exact absurd ((isS_iff s).1 h).p0 h_p0
  rw[hS]
  clear hS
  go_enter Tryz.func30,Tryz.ntmps30
  go_wp2
  go_ret
  exact ⟨rfl,gq⟩
 by_cases h_p1:s.step≤1099511627776
 case neg=>
  have hS:isS s=false:=by
   cases h:isS s
   ·
    rfl
   ·
    exact absurd ((isS_iff s).1 h).p1 h_p1
  rw[hS]
  clear hS
  go_enter Tryz.func30,Tryz.ntmps30
  go_wp2
  go_ret
  exact ⟨rfl,gq⟩
 by_cases h_len:(s.vals.length:Int)≤131072
 case neg=>
  have hS:isS s=false:=by
   cases h:isS s
   ·
    rfl
   ·
    exact absurd ((isS_iff s).1 h).len h_len
  rw[hS]
  clear hS
  go_enter Tryz.func30,Tryz.ntmps30
  go_wp2
  go_ret
  exact ⟨rfl,gq⟩
 by_cases h_c0:0≤s.cons
 case neg=>
  have hS:isS s=false:=by
   cases h:isS s
   ·
    rfl
   ·
    exact absurd ((isS_iff s).1 h).c0 h_c0
  rw[hS]
  clear hS
  go_enter Tryz.func30,Tryz.ntmps30
  go_wp2
  go_ret
  exact ⟨rfl,gq⟩
 by_cases h_c1:s.cons≤5
 case neg=>
  have hS:isS s=false:=by
   cases h:isS s
   ·
    rfl
   ·
    exact absurd ((isS_iff s).1 h).c1 h_c1
  rw[hS]
  clear hS
  go_enter Tryz.func30,Tryz.ntmps30
  go_wp2
  go_ret
  exact ⟨rfl,gq⟩
 have hS:isS s=s.vals.all isB:=by
  cases h:s.vals.all isB
  ·
   cases h2:isS s
   ·
    rfl
   ·
    rw[((isS_iff s).1 h2).all] at h;cases h
  ·
   exact (isS_iff s).2 ⟨h_name,h_s0,h_s1,h_p0,h_p1,h_len,h_c0,h_c1,h⟩
 rw[hS]
 clear hS
 generalize hL:s.vals=l at *
 clear hL
 go_enter Tryz.func30,Tryz.ntmps30
 go_wp2
 go_loopw [3] (fun i wr=>∃k:Nat,k≤l.length∧i= .int .i64 k∧Gr w wr∧w.heap.size<wr.heap.size∧wr.cell? ⟨w.heap.size,3,none⟩=some (.slice A l.length c)∧(l.take k).all isB=true) (fun i _=>l.length-(intOf i).toNat)
 case atStart=>exact ⟨0,Nat.zero_le _,rfl,gq,by simp,by go_simp,rfl⟩
 case round=>
  obtain ⟨k,hk,rfl,hgr,hz,hc3,ha⟩:=hrel
  by_cases hlt:k<l.length
  ·
   obtain ⟨ad,rfl,hb,hx0,hx1⟩:=(hr.gr hgr).at hlt
   have Ht:=all_take hlt
   rw[ha] at Ht
   have Ht:=Lib.hid Ht
   have Hn:=Lib.hid (all_no hlt)
   have Q:=fun w=>ris_any l[k].ok l[k].n w
   clear ha
   cases hx:isB l[k]
   ·
    simp only[show isB ⟨l[k].ok,l[k].n⟩=false from hx] at Q
    go_wp2_with fail
    refine (Q _).mono ?_;rintro e w1 ⟨rfl,hg⟩
    go_wp2
    go_ret
    exact ⟨by simp[Hn.out hx],gq⟩
   ·
    simp only[show isB ⟨l[k].ok,l[k].n⟩=true from hx] at Q
    go_wp2_with fail
    refine (Q _).mono ?_;rintro e w1 ⟨rfl,hg⟩
    have hd3:=(hg.cell (p:=⟨w.heap.size,3,none⟩) hz).trans hc3
    have hz1:=Nat.lt_of_lt_of_le hz hg.size
    clear hc3 hz
    go_wp2
    go_roundw
    case rel=>exact ⟨k+1,by omega,by go_num,gq,hz1,hd3,by rw[Ht.out,hx];rfl⟩
    case measure=>simp[intOf];omega
  ·
   have hkk:k=l.length:=by omega
   subst hkk
   rw[List.take_length] at ha
   have Ha:=Lib.hid ha;clear ha
   go_wp2
   go_ret
   exact ⟨by simp[Ha.out],gq⟩
theorem tl_of {a b:ByteArray} (h:a.toList=b.toList):a=b:=by
 rw[ByteArray.toList_eq,ByteArray.toList_eq] at h
 cases a;cases b;simp at h;rw[h]
theorem tl_ne {a b:ByteArray} (h:a≠b):(a.toList==b.toList)=false:=beq_eq_false_iff_ne.2 fun e=>h (tl_of e)
theorem vl_ext {a b:Vl} (h0:a.ok=b.ok) (h1:a.n=b.n):a=b:=by
 cases a;cases b;simp at h0 h1;subst h0 h1;rfl
theorem take_eq {l m:List Vl} {k:Nat} (hl:k<l.length) (hm:k<m.length) (h:l.take k=m.take k) (e:l[k]=m[k]):l.take (k+1)=m.take (k+1):=by
 rw[List.take_succ_eq_append_getElem hl,List.take_succ_eq_append_getElem hm,h,e]
theorem at_ne {l m:List Vl} {k:Nat} (hl:k<l.length) (hm:k<m.length) (e:l[k]≠m[k]):l≠m:=by
 intro h;subst h;exact e rfl
def RetB (p:Prop) (w:World) (e:Ending) (w':World):Prop:=(∃b:Bool,e= .returned (.bool b)∧(b=true↔p))∧Gr w w'
theorem rsame_any (na nb:ByteArray) (sa sb pa pb ka kb:Int) (l m:List Vl) (A A':Option Addr) (c c':Nat) (w:World) (hl:l.length≤1000000) (hm:m.length≤1000000) (hr:Rv w A l) (hr':Rv w A' m) :
  Calls Tryz.prog 76 #[.agg #[.string na, .int .i64 sa, .int .i64 pa, .slice A l.length c, .int .i64 ka],(.agg #[.string nb, .int .i64 sb, .int .i64 pb, .slice A' m.length c', .int .i64 kb])] w (RetB ((⟨na,sa,pa,l,ka⟩:Sr)=⟨nb,sb,pb,m,kb⟩) w):=by
 have hl1:(l.length:Int)≤1000000:=by omega
 have hm1:(m.length:Int)≤1000000:=by omega
 by_cases hn:na=nb
 case neg=>
  have hq:(na.toList==nb.toList)=false:=tl_ne hn
  have hq':(na.toList != nb.toList)=true:=by simp only[bne,hq,Bool.not_false]
  have hne:Hid ((⟨na,sa,pa,l,ka⟩:Sr)≠⟨nb,sb,pb,m,kb⟩):=Lib.hid (fun h=>hn (congrArg Sr.name h))
  clear hn
  go_enter Tryz.func76,Tryz.ntmps76
  go_wp2
  go_ret
  exact ⟨⟨_,rfl,fun h=>(by cases h),fun h=>absurd h hne.out⟩,gq⟩
 subst hn
 by_cases hs:sa=sb
 case neg=>
  have hq:(sa==sb)=false:=beq_eq_false_iff_ne.2 hs
  have hq':(sa != sb)=true:=by simp only[bne,hq,Bool.not_false]
  have hne:Hid ((⟨na,sa,pa,l,ka⟩:Sr)≠⟨na,sb,pb,m,kb⟩):=Lib.hid (fun h=>hs (congrArg Sr.start h))
  clear hs
  go_enter Tryz.func76,Tryz.ntmps76
  go_wp2
  go_ret
  exact ⟨⟨_,rfl,fun h=>(by cases h),fun h=>absurd h hne.out⟩,gq⟩
 subst hs
 by_cases hp:pa=pb
 case neg=>
  have hq:(pa==pb)=false:=beq_eq_false_iff_ne.2 hp
  have hq':(pa != pb)=true:=by simp only[bne,hq,Bool.not_false]
  have hne:Hid ((⟨na,sa,pa,l,ka⟩:Sr)≠⟨na,sa,pb,m,kb⟩):=Lib.hid (fun h=>hp (congrArg Sr.step h))
  clear hp
  go_enter Tryz.func76,Tryz.ntmps76
  go_wp2
  go_ret
  exact ⟨⟨_,rfl,fun h=>(by cases h),fun h=>absurd h hne.out⟩,gq⟩
 subst hp
 by_cases hk:ka=kb
 case neg=>
  have hq:(ka==kb)=false:=beq_eq_false_iff_ne.2 hk
  have hq':(ka != kb)=true:=by simp only[bne,hq,Bool.not_false]
  have hne:Hid ((⟨na,sa,pa,l,ka⟩:Sr)≠⟨na,sa,pa,m,kb⟩):=Lib.hid (fun h=>hk (congrArg Sr.cons h))
  clear hk
  go_enter Tryz.func76,Tryz.ntmps76
  go_wp2
  go_ret
  exact ⟨⟨_,rfl,fun h=>(by cases h),fun h=>absurd h hne.out⟩,gq⟩
 subst hk
 by_cases hlen:l.length=m.length
 case neg=>
  have hq:((l.length:Int) != (m.length:Int))=true:=by simp;omega
  have hq':((l.length:Int)==(m.length:Int))=false:=by simp;omega
  have hq2:(l.length==m.length)=false:=by simp;omega
  have hne:Hid ((⟨na,sa,pa,l,ka⟩:Sr)≠⟨na,sa,pa,m,ka⟩):=Lib.hid (fun h=>hlen (congrArg List.length (congrArg Sr.vals h)))
  clear hlen
  go_enter Tryz.func76,Tryz.ntmps76
  go_wp2
  go_ret
  exact ⟨⟨_,rfl,fun h=>(by cases h),fun h=>absurd h hne.out⟩,gq⟩
 rw[←hlen]
 have HL:=Lib.hid hlen;clear hlen
 have HL2:Hid (∀k,k<l.length→k<m.length):=Lib.hid (fun k h=>by rw[←HL.out];exact h)
 go_enter Tryz.func76,Tryz.ntmps76
 go_wp2
 go_loopw [5] (fun i wr=>∃k:Nat,k≤l.length∧i= .int .i64 k∧Gr w wr∧Hid (l.take k=m.take k)∧wr.cell? ⟨w.heap.size,3,none⟩=some (.slice A l.length c)∧wr.cell? ⟨w.heap.size+1,3,none⟩=some (.slice A' l.length c')) (fun i _=>l.length-(intOf i).toNat)
 case atStart=>exact ⟨0,Nat.zero_le _,rfl,gq,Lib.hid rfl,by go_simp,by go_simp⟩
 case round=>
  obtain ⟨k,hk,rfl,hgr,ht,hc3,hd3⟩:=hrel
  by_cases hlt:k<l.length
  ·
   
   obtain ⟨ad,rfl,hb,hx0,hx1⟩:=(hr.gr hgr).at hlt
   have hlt':=HL2.out k hlt
   obtain ⟨ad',rfl,hb',hy0,hy1⟩:=(hr'.gr hgr).at hlt'
   have Ht:=Lib.hid (take_eq hlt hlt' ht.out)
   have Hn:=Lib.hid (at_ne hlt hlt')
   obtain ⟨x,hxk⟩:∃x,l[k]=x:=⟨_,rfl⟩
   obtain ⟨y,hyk⟩:∃y,m[k]=y:=⟨_,rfl⟩
   rw[hxk] at hx0 hx1 Ht Hn
   rw[hyk] at hy0 hy1 Ht Hn
   have HX:=Lib.hid (And.intro hxk hyk);clear hxk hyk
   cases hq0:(x.ok==y.ok)
   case false=>
    have hne:Hid (x≠y):=Lib.hid (fun h=>by rw[h] at hq0;simp at hq0)
    cases hq1:(x.n==y.n)
    all_goals
     go_wp2
     go_quiet (fail)
     go_wp2
     go_ret
     exact ⟨⟨_,rfl,fun h=>(by cases h),fun h=>absurd h (fun h=>(Hn.out hne.out) (congrArg Sr.vals h))⟩,(by repeat (first|exact Gr.refl _|assumption|refine Gr.drewN ?_ _|refine Gr.alloc ?_ _|refine Gr.drew ?_|refine Gr.setCell ?_ (by first|(simp;done)|(simp;omega)|omega) _|refine Gr.trans ?_ (by assumption)))⟩
   case true=>
    cases hq1:(x.n==y.n)
    case false=>
     have hne:Hid (x≠y):=Lib.hid (fun h=>by rw[h] at hq1;simp at hq1)
     go_wp2
     go_quiet (fail)
     go_wp2
     go_ret
     exact ⟨⟨_,rfl,fun h=>(by cases h),fun h=>absurd h (fun h=>(Hn.out hne.out) (congrArg Sr.vals h))⟩,(by repeat (first|exact Gr.refl _|assumption|refine Gr.drewN ?_ _|refine Gr.alloc ?_ _|refine Gr.drew ?_|refine Gr.setCell ?_ (by first|(simp;done)|(simp;omega)|omega) _|refine Gr.trans ?_ (by assumption)))⟩
    case true=>
     have heq:Hid (x=y):=Lib.hid (vl_ext (by simpa using hq0) (by simpa using hq1))
     go_wp2
     go_quiet (fail)
     go_wp2
     go_roundw
     case rel=>exact ⟨k+1,by omega,by go_num,(by repeat (first|exact Gr.refl _|assumption|refine Gr.drewN ?_ _|refine Gr.alloc ?_ _|refine Gr.drew ?_|refine Gr.setCell ?_ (by first|(simp;done)|(simp;omega)|omega) _|refine Gr.trans ?_ (by assumption))),Lib.hid (Ht.out heq.out),hc3,hd3⟩
     case measure=>simp[intOf];omega
  ·
   have hkk:k=l.length:=by omega
   subst hkk
   have Heq:Hid (l=m):=Lib.hid (by have:=ht.out;rw[List.take_length,HL.out,List.take_length] at this;exact this)
   go_wp2
   go_ret
   exact ⟨⟨_,rfl,fun _=>by rw[Heq.out],fun _=>rfl⟩,gq⟩
theorem nm_is {nm:ByteArray} {r:Fr} {l:List UInt8} {b:Bool} (h:nm=r.nm) (hb:(r.nm.data.toList==l)=b):(nm.toList==l)=b:=by
 rw[h,ByteArray.toList_eq];exact hb
theorem aggV_none {k:Int} (h:k<1∨5<k) (l:List Vl):aggV k l=⟨false,0⟩:=by
 unfold aggV ofK
 split
 ·
  rw[if_neg (by omega),if_neg (by omega),if_neg (by omega),if_neg (by omega),if_neg (by omega)]
 ·
  rfl
def R0:Fr:=⟨⟨#[97,118,101,114,97,103,101,65,98,111,118,101]⟩,5,1,false⟩
def R1:Fr:=⟨⟨#[97,118,101,114,97,103,101,66,101,108,111,119]⟩,6,1,false⟩
def R8:Fr:=⟨⟨#[104,105,103,104,101,115,116,77,97,120]⟩,4,4,false⟩
def aggSr (s:Sr) (A:Option Addr) (c:Nat):Value:= .agg #[.string s.name, .int .i64 s.start, .int .i64 s.step, .slice A s.vals.length c, .int .i64 s.cons]
def RetVl (x:Vl) (w:World) (e:Ending) (w':World):Prop:=e= .returned (.agg #[.bool x.ok, .int .i64 x.n])∧Gr w w'
theorem rowof_of (r:Fr) (s:Sr) (A:Option Addr) (c:Nat) (w:World) (hl:s.vals.length≤1000000) (hr:Rv w A s.vals) (h6:r.by_≠6) (HA:AgOk r.by_) :
  Calls Tryz.prog 35 #[aggFr r,aggSr s A c] w (RetVl (ofR r.by_ s.vals) w):=by
 have HAA:=Lib.hid HA
 clear HA
 unfold aggFr aggSr
 have hv:ofR r.by_ s.vals=aggV r.by_ s.vals:=by unfold ofR;rw[if_neg h6]
 have hb:(r.by_==6)=false:=beq_eq_false_iff_ne.2 h6
 rw[hv]
 clear hv h6
 go_enter Tryz.func35,Tryz.ntmps35
 go_wp2_with fail
 refine (HAA.out A c s.vals _ hl ?hr).mono ?_
 case hr=>exact hr.gr gq
 rintro e w1 ⟨rfl,hg⟩
 obtain ⟨hc,hf⟩:=hg.cells
 have z1:=hg.size
 simp at z1
 have z0:w.heap.size<w1.heap.size:=by omega
 have z2:w.heap.size+1<w1.heap.size:=by omega
 have z3:w.heap.size+1+1<w1.heap.size:=by omega
 have q0:w1.cell? ⟨w.heap.size+1+1,0,none⟩=some (.bool false):=by go_simp
 have q1:w1.cell? ⟨w.heap.size+1+1,1,none⟩=some (.int .i64 0):=by go_simp
 have f0:w1.frozen? ⟨w.heap.size+1+1,0,none⟩=false:=by go_simp
 have f1:w1.frozen? ⟨w.heap.size+1+1,1,none⟩=false:=by go_simp
 have gw:Gr w w1:=gq
 clear hc hf hg
 go_wp2
 exact bodyPost_ret (v:= .agg #[.bool (aggV r.by_ s.vals).ok, .int .i64 (aggV r.by_ s.vals).n]) (by simp[results,Tryz.results35,go_sem, *]) rfl ⟨rfl,gq⟩
def OfOk (r:Fr):Prop:=∀(s:Sr) (A:Option Addr) (c:Nat) (w:World),s.vals.length≤1000000→Rv w A s.vals→
  Calls Tryz.prog 35 #[aggFr r,aggSr s A c] w (RetVl (ofR r.by_ s.vals) w)
theorem ofok_few {r:Fr} (h:r.by_=4∨r.by_=0):OfOk r:=fun s A c w hl hr=>rowof_of r s A c w hl hr (by omega) (agok_few (by omega))
theorem fof_of (nm:ByteArray) (s:Sr) (A:Option Addr) (c:Nat) (w:World) (hl:s.vals.length≤1000000) (hr:Rv w A s.vals) (HO:OfOk (rowF nm)) :
  Calls Tryz.prog 13 #[.string nm,aggSr s A c] w (RetVl (ofR (rowF nm).by_ s.vals) w):=by
 unfold aggSr
 have Q:=fun w=>find_any nm w
 have Q2:=fun w hr=>HO s A c w hl hr
 clear HO
 unfold RetFind aggFr at Q
 unfold aggFr aggSr at Q2
 generalize rowF nm=r at Q Q2 ⊢
 generalize (findF nm).isSome=b at Q
 go_enter Tryz.func13,Tryz.ntmps13
 go_wp2_with fail
 refine (Q _).mono ?_
 rintro e w1 ⟨rfl,hg⟩
 obtain ⟨hc,hf⟩:=hg.cells
 have z1:=hg.size
 simp at z1
 have z0:w.heap.size<w1.heap.size:=by omega
 have z2:w.heap.size+1<w1.heap.size:=by omega
 have gw:Gr w w1:=gq
 have r0:w1.cell? ⟨w.heap.size,0,none⟩=some (.string s.name):=by go_simp
 have r1:w1.cell? ⟨w.heap.size,1,none⟩=some (.int .i64 s.start):=by go_simp
 have r2:w1.cell? ⟨w.heap.size,2,none⟩=some (.int .i64 s.step):=by go_simp
 have r3:w1.cell? ⟨w.heap.size,3,none⟩=some (.slice A s.vals.length c):=by go_simp
 have r4:w1.cell? ⟨w.heap.size,4,none⟩=some (.int .i64 s.cons):=by go_simp
 have q0:w1.cell? ⟨w.heap.size+1,0,none⟩=some (.bool false):=by go_simp
 have q1:w1.cell? ⟨w.heap.size+1,1,none⟩=some (.int .i64 0):=by go_simp
 have f0:w1.frozen? ⟨w.heap.size+1,0,none⟩=false:=by go_simp
 have f1:w1.frozen? ⟨w.heap.size+1,1,none⟩=false:=by go_simp
 clear hc hf hg Q
 go_wp2_with fail
 refine (Q2 _ ?hr2).mono ?_
 case hr2=>exact (hr.gr gw).gr gq
 rintro e w2 ⟨rfl,hg⟩
 obtain ⟨hc,hf⟩:=hg.cells
 have z4:=hg.size
 simp at z4
 have z5:w.heap.size+1<w2.heap.size:=by omega
 have gw2:Gr w w2:=gq
 have z6:w.heap.size+1<w1.heap.size+1:=by omega
 have p0:w2.cell? ⟨w.heap.size+1,0,none⟩=some (.bool false):=by go_simp
 have p1:w2.cell? ⟨w.heap.size+1,1,none⟩=some (.int .i64 0):=by go_simp
 have g0:w2.frozen? ⟨w.heap.size+1,0,none⟩=false:=by go_simp
 have g1:w2.frozen? ⟨w.heap.size+1,1,none⟩=false:=by go_simp
 clear hc hf hg q0 q1 f0 f1 r0 r1 r2 r3 r4
 go_wp2
 exact bodyPost_ret (v:= .agg #[.bool (ofR r.by_ s.vals).ok, .int .i64 (ofR r.by_ s.vals).n]) (by simp[results,Tryz.results13,go_sem, *]) rfl ⟨rfl,gq⟩
theorem scells_take (L:List Sq) (m:Nat) (h:m≤L.length):scells (L.take m)=(scells L).take (m*5):=by
 induction L generalizing m with
 | nil=>simp[scells]
 | cons x L ih=>
  match m with
  | 0=>simp[scells]
  | m+1=>
   have hm:m≤L.length:=by simpa using h
   rw[List.take_succ_cons,scells_cons,scells_cons,ih m hm,show (m+1)*5=m*5+5 by omega]
   rfl
theorem Rl.take {w:World} {A:Option Addr} {L:List Sq} (h:Rl w A L) {m:Nat} (hm:m≤L.length):Rl w A (L.take m):=by
 refine ⟨scells_length _,fun h0=>?_⟩
 have hl:(L.take m).length=m:=by simp;omega
 obtain ⟨ad,e,hb,hc⟩:=h.2 (by omega)
 refine ⟨ad,e,hb,fun j u hu=>hc j u ?_⟩
 rw[scells_take L m hm] at hu
 rw[List.getElem?_take] at hu
 split at hu
 ·
  exact hu
 ·
  cases hu
def RetL (L:List Sq) (w:World) (e:Ending) (w':World):Prop:=∃A c,e= .returned (.slice A L.length c)∧L.length≤c∧Rl w' A L∧Gr w w'
theorem firstN_no {k:Vl} (h:k.ok=false∨k.n<0) (n:Nat):firstN k n=0:=by
 unfold firstN;rw[if_neg];rintro ⟨h1,h2⟩
 rcases h with h|h
 ·
  rw[h] at h1;cases h1
 ·
  omega
theorem firstL_no {k:Vl} (h:k.ok=false∨k.n<0) (L:List Sq):firstL k L=[]:=by unfold firstL;rw[firstN_no h];rfl
theorem firstL_yes {k:Vl} (h1:k.ok=true) (h2:0≤k.n) (L:List Sq) (q:Nat) (hq:k.n/1000000=q):firstL k L=L.take (min (L.length:Int) (q:Int)).toNat:=by
 unfold firstL firstN;rw[if_pos ⟨h1,h2⟩];congr 1;omega
theorem ret_slice {A:Option Addr} {n m c:Nat} (h:n=m):Ending.returned (.slice A n c)= .returned (.slice A m c):=by rw[h]
theorem first_any (k:Vl) (A:Option Addr) (c:Nat) (L:List Sq) (w:World) (hk:isB k=true) (hl:L.length≤1000000) (hcap:L.length≤c) (hr:Rl w A L) :
  Calls Tryz.prog 50 #[.agg #[.bool k.ok, .int .i64 k.n], .slice A L.length c] w (RetL (firstL k L) w):=by
 obtain ⟨ok,n⟩:=k
 have hl':(L.length:Int)≤1000000:=by omega
 cases ok
 case false=>
  rw[firstL_no (.inl rfl)]
  go_enter Tryz.func50,Tryz.ntmps50
  go_wp2
  go_ret
  exact ⟨none,0,rfl,Nat.le_refl _,Rd.nil _ _ _,gq⟩
 by_cases h0:n<0
 ·
  rw[firstL_no (.inr h0)]
  go_enter Tryz.func50,Tryz.ntmps50
  go_wp2
  go_ret
  exact ⟨none,0,rfl,Nat.le_refl _,Rd.nil _ _ _,gq⟩
 have h0':0≤n:=by omega
 have hn1:n≤4611686018427387904:=((isB_iff true n).1 hk).2
 obtain ⟨q,hq⟩:∃q:Nat,n/1000000=q:=⟨(n/1000000).toNat,by omega⟩
 rw[firstL_yes (k:=⟨true,n⟩) rfl h0' L q hq]
 have hm:min (L.length:Int) (q:Int)≤(c:Int):=by omega
 have hm0:0≤min (L.length:Int) (q:Int):=by omega
 have hlen:(L.take (min (L.length:Int) (q:Int)).toNat).length=(min (L.length:Int) (q:Int)).toNat:=by simp;omega
 have hr2:=hr.take (m:=(min (L.length:Int) (q:Int)).toNat) (by omega)
 have HL:=Lib.hid hlen
 clear hlen
 go_enter Tryz.func50,Tryz.ntmps50
 go_wp2
 go_ret
 exact ⟨_,_,ret_slice (by rw[HL.out]),by rw[HL.out];omega,hr2.gr gq,gq⟩
def comN (a b:Nat):Nat:=if 16777216/b<a/Nat.gcd a b then 0 else a/Nat.gcd a b*b
def comS (st:Nat) (s:Sr):Nat:=if st=0 then 0 else comN st s.step.toNat
def stepS (L:List Sr):Nat:=L.foldl comS 1
def minS (L:List Sr) (t:Int):Int:=L.foldl (fun t s=>min t s.start) t
def lastS (L:List Sr):Int:=L.foldl (fun t s=>max t (endS s)) 0
def startJ (L:List Sr):Int:=minS L 4294967295-minS L 4294967295%(stepS L:Int)
def countJ (L:List Sr):Int:=upI (lastS L-startJ L) (stepS L:Int)
def errJ (L:List Sr):Int:=if L.all isS=true then (if L=[] then 0 else if stepS L=0 then 13 else if 131072<countJ L then 13 else 0) else 1
def joinS (L:List Sr):List Sr:=if errJ L=0 then L.map fun s=>fitS s (startJ L) (stepS L:Int) (countJ L) else []
where
 Nat.div_mul_comm_of_dvd' (a b:Nat):a/Nat.gcd a b*b=a*(b/Nat.gcd a b):=by
  rcases Nat.eq_zero_or_pos (Nat.gcd a b) with h0|hg
  ·
   rw[h0];simp[Nat.div_zero]
  ·
   obtain ⟨x,hx⟩:=Nat.gcd_dvd_left a b
   obtain ⟨y,hy⟩:=Nat.gcd_dvd_right a b
   generalize Nat.gcd a b=g at *
   subst hx hy
   rw[Nat.mul_div_cancel_left _ hg,Nat.mul_div_cancel_left _ hg,Nat.mul_comm g x,Nat.mul_assoc]
def Lie (w:World) (L:List Sq):Prop:=∀x∈L,Rv w x.A x.s.vals
theorem Lie.gr {w w':World} {L:List Sq} (h:Lie w L) (g:Gr w w'):Lie w' L:=fun x hx=>(h x hx).gr g
def okL (L:List Sq):Bool:=L.all fun x=>isS x.s
theorem okL_take {L:List Sq} {k:Nat} (h:k<L.length):okL (L.take (k+1))=(okL (L.take k)&&isS L[k].s):=by
 unfold okL;rw[List.take_succ_eq_append_getElem h,List.all_append];simp
theorem okL_no {L:List Sq} {k:Nat} (h:k<L.length) (hb:isS L[k].s=false):okL L=false:=by
 cases hq:okL L
 ·
  rfl
 ·
  unfold okL at hq;rw[List.all_eq_true.1 hq _ (List.getElem_mem h)] at hb;cases hb
def RetS (s:Sr) (w:World) (e:Ending) (w':World):Prop:=∃A c,e= .returned (.agg #[.string s.name, .int .i64 s.start, .int .i64 s.step, .slice A s.vals.length c, .int .i64 s.cons])∧Rv w' A s.vals∧Gr w w'∧∀ad,A=some ad→w.heap.size≤ad.block
def RetN (l:List Vl) (w:World) (e:Ending) (w':World):Prop:=∃A c,e= .returned (.slice A l.length c)∧Rv w' A l∧Gr w w'∧∀ad,A=some ad→w.heap.size≤ad.block
theorem own_new {w:World} {base:Nat} {e:TypeId} {size n c:Nat} {A:Option Addr} {xs:List Value} (h:w.ownsRow base e size (.slice A n c) n xs):∀ad,A=some ad→base≤ad.block:=by
 intro ad had
 subst had
 obtain ⟨_,⟨hv,_⟩|⟨g,cap,cur,hv,hb,_⟩⟩:=h
 ·
  injection hv with h1;cases h1
 ·
  injection hv with h1
  injection h1 with h1
  rw[h1];exact hb
theorem Rv.set {w:World} {A:Option Addr} {l:List Vl} (h:Rv w A l) (p:Addr) (u:Value) (hne:∀ad,A=some ad→p.block<ad.block):Rv (w.setCell p u) A l:=
 ⟨h.1,fun hn=>by
  obtain ⟨ad,e,hb,hc⟩:=h.2 hn
  refine ⟨ad,e,by simpa using hb,fun j u' hu=>?_⟩
  rw[World.cell?_setCell_far _ _ _ _ (by rw[add_blk];exact Nat.ne_of_lt (hne ad e))]
  exact hc j u' hu⟩
theorem own_empty (w:World) (base:Nat) (hb:base≤w.heap.size) (e:TypeId) (size:Nat):(w.alloc (.cells #[] e)).ownsRow base e size (.slice (some ⟨w.heap.size,0,none⟩) 0 0) 0 []:=
 ⟨by simp, .inr ⟨w.heap.size,0, #[],rfl,hb,heap_alloc_new w _,Nat.le_refl _,by unfold maxLen;omega,by simp,by simp⟩⟩
theorem clone_any (A:Option Addr) (c:Nat) (l:List Vl) (w:World) (hl:l.length≤1000000) (hr:Rv w A l) :
  Calls Tryz.prog 61 #[.slice A l.length c] w (RetN l w):=by
 cases A with
 | none=>
  have h0:l=[]:=by
   rcases Nat.eq_zero_or_pos l.length with h|h
   ·
    exact List.eq_nil_of_length_eq_zero h
   ·
    obtain ⟨ad,e,_⟩:=hr.2 h;cases e
  subst h0
  have q22:∀(w:World) (a:Option Addr) (n c n' c':Nat),(binOp .eql 32 (.slice a n c) (.slice none n' c')).run Tryz.prog w= .ok (.bool a.isNone) w:=fun w a n c n' c'=>Lib.run_eql_slice_nil w _ _ a n c n' c' Tryz.underlying32
  go_enter Tryz.func61,Tryz.ntmps61
  go_wp2
  go_ret
  exact ⟨none,0,rfl,Rv.nil _ _,gq,fun ad h=>by cases h⟩
 | some ad=>
  obtain ⟨i0,hi,hz0,hz1,hz2⟩:=info_parts info_val
  have hown0:=own_empty w w.heap.size (Nat.le_refl _) 25 2
  have hr0:=hr.gr (Gr.alloc (Gr.refl w) (.cells #[] 25))
  have q22:∀(w:World) (a:Option Addr) (n c n' c':Nat),(binOp .eql 32 (.slice a n c) (.slice none n' c')).run Tryz.prog w= .ok (.bool a.isNone) w:=fun w a n c n' c'=>Lib.run_eql_slice_nil w _ _ a n c n' c' Tryz.underlying32
  go_enter Tryz.func61,Tryz.ntmps61
  go_wp2_with (at_builtin;refine wpList_append_rd rfl (.tmp 5) (.tmp 6) 32 rfl w.heap.size 25 i0 _ 2 16 Tryz.underlying32 hi hz0 hz1 hz2 rfl (by decide) _ _ _ rfl hown0 (some ad) l.length c (vcells l) rfl hr0 (vcells_one _) (by unfold maxLen;omega) (by omega) (by simp) ?_;intro v' w2 hown2 hgr2 hat2)
  have hg2:Gr w w2:=Gr.grown (Gr.alloc (Gr.refl w) _) hgr2 (fun k hk=>by have h:some w.heap.size=some k:=hk;injection h with h;omega)
  rw[Nat.zero_add,List.nil_append] at hown2
  obtain ⟨A',c',hv⟩:=own_form hown2
  subst hv
  clear hgr2 hat2 hown0 hr0
  go_wp2
  go_ret
  exact ⟨A',c',rfl,Rd.own hown2,hg2,own_new hown2⟩
theorem okL_all (L:List Sq):okL L=(L.map Sq.s).all isS:=by unfold okL;rw[List.all_map];rfl
def RetJ (S:List Sr) (w:World) (e:Ending) (w':World):Prop:=
 ∃(A:Option Addr) (M:List Sq) (c:Nat),e= .returned (.tuple #[.slice A M.length c, .int .i64 (errJ S)])∧M.map Sq.s=joinS S∧Rl w' A M∧Lie w' M∧Gr w w'
theorem RetJ.err {S:List Sr} {w w':World} {n:Int} (h:errJ S=n) (hn:joinS S=[]) (g:Gr w w'):RetJ S w (.returned (.tuple #[.slice none 0 0, .int .i64 n])) w':=
 ⟨none,[],0,by rw[h];rfl,by rw[hn];rfl,Rd.nil _ _ _,fun x hx=>absurd hx (by simp),g⟩
theorem info_ser:(Tryz.prog.info? 34).map (fun i=>(i.zero,i.size,i.bytes))=some (some (.agg #[.string ⟨#[]⟩, .int .i64 0, .int .i64 0, .slice none 0 0, .int .i64 0]),5,64):=by kernel_rfl
theorem scells_one (L:List Sq):∀u∈scells L,u.oneCell'=true:=by
 intro u hu
 simp only[scells,List.mem_flatMap] at hu
 obtain ⟨v,_,hv⟩:=hu
 simp at hv
 rcases hv with rfl|rfl|rfl|rfl|rfl<;>rfl
theorem Rv.grown {w w':World} {A:Option Addr} {l:List Vl} {row:Option Nat} (h:Rv w A l) (hg:w.grownBy w' row) (hne:0<l.length→∀ad,A=some ad→some ad.block≠row):Rv w' A l:=
 ⟨h.1,fun hn=>by
  obtain ⟨ad,e,hb,hc⟩:=h.2 hn
  exact ⟨ad,e,Nat.lt_of_lt_of_le hb hg.size,fun j u hu=>hg.cell (hc j u hu) (by rw[add_blk];exact hne hn ad e)⟩⟩
theorem Rv.blk {w:World} {A:Option Addr} {l:List Vl} (h:Rv w A l) (hn:0<l.length) {ad:Addr} (hA:A=some ad):ad.block<w.heap.size:=by
 obtain ⟨ad',e,hb,_⟩:=h.2 hn
 rw[hA] at e;injection e with e;subst e;exact hb
theorem new_apart {w:World} {base:Nat} {e:TypeId} {size n:Nat} {v:Value} {xs:List Value} (h:w.ownsRow base e size v n xs) {ad:Addr} (hb:w.heap.size≤ad.block):some ad.block≠v.ownBlock:=by
 intro h1
 have:=(h.lt _ h1.symm).2
 omega
def Apart (row:Option Nat) (M:List Sq):Prop:=∀x∈M,0<x.s.vals.length→∀ad,x.A=some ad→some ad.block≠row
open Go
section
variable {P:Program} {ops:Array Oper} {C:World→Prop} {Q:Act→Prop} {o:Oper} {rest:List Oper} {a:Act}
theorem q_val {v:Value} (hw:Region.wanted o (yielded ops a.tmps)=true) (h:∀W,C W→(execOp a.eval o).run P W= .ok (.value v) W) (hr:wpQuiet P ops C Q rest (a.put o.dst v)) :
  wpQuiet P ops C Q (o::rest) a:=by
 unfold wpQuiet
 rw[if_pos hw]
 exact ⟨v,fun W hW=>by unfold Oper.quietAt;rw[h W hW];exact ⟨rfl,rfl⟩,hr⟩
theorem qv {v:Value} (hr:wpQuiet P ops C Q rest (a.put o.dst v)) (hw:Region.wanted o (yielded ops a.tmps)=true:=by rfl) (h:∀W,C W→(execOp a.eval o).run P W= .ok (.value v) W:=by intro W hW;go_simp;rfl):wpQuiet P ops C Q (o::rest) a:=q_val hw h hr
theorem q_call {v:Value} {f:FuncId} {args:Array Value} (hw:Region.wanted o (yielded ops a.tmps)=true) (h:∀W,C W→(execOp a.eval o).run P W= .ok (.enter f args) W)
  (hc:∀W,C W→Calls P f args W fun e w'=>e= .returned v∧C w') (hr:wpQuiet P ops C Q rest (a.put o.dst v)):wpQuiet P ops C Q (o::rest) a:=by
 unfold wpQuiet
 rw[if_pos hw]
 exact ⟨v,fun W hW=>by unfold Oper.quietAt;rw[h W hW];exact ⟨rfl,hc W hW⟩,hr⟩
theorem q_skip (hw:Region.wanted o (yielded ops a.tmps)=false) (hr:wpQuiet P ops C Q rest (a.put o.dst undef)):wpQuiet P ops C Q (o::rest) a:=by
 unfold wpQuiet
 rw[if_neg (by rw[hw];decide)]
 exact hr
theorem region_Q {id:Nat} {R:Exit→Act→World→Prop} {w:World} {l:List Oper} (hm:P.follows .mixedOrders=true) (hB:Region.lexB .any l.toArray=true)
  (h:wpQuiet P l.toArray (fun W=>Gr w W) (fun a'=>∀w',Gr w w'→R .normal a' w') l a):(Code.region id l.toArray true).wp P R a w:=
 wp_region_quiet (C:=fun W=>Gr w W) hm hB (Gr.drew (Gr.refl w)) (by simpa using h)
end
section
variable {P:Program} {ops:Array Oper} {Q:Exit→Act→World→Prop} {md:Region.Mode} {S:World→Prop} {z:Nat}
def wpAnyZ (P:Program) (md:Region.Mode) (ops:Array Oper) (Q:Exit→Act→World→Prop) (S:World→Prop) (z:Nat):Nat→Array Bool→Act→World→Prop
 | 0,listed,a,w=>Region.ready md ops listed=[]∧Q .normal a w
 | fuel+1,listed,a,w=>
  (Region.ready md ops listed=[]→Q .normal a w)∧
  ∀i∈Region.ready md ops listed,wpOp P ops Q i (fun a' w'=>(i≠z→S w')∧wpAnyZ P md ops Q S z fuel (listed.setIfInBounds i true) a' w') a w
theorem wpAny_of_Z:∀(fuel:Nat) (listed:Array Bool) (a:Act) (w:World),wpAnyZ P md ops Q S z fuel listed a w→wpAny P md ops Q fuel listed a w
 | 0,_,_,_,h=>h
 | fuel+1,_,_,_,h=>⟨h.1,fun i hi=>wpOp_mono (fun a' w' h'=>wpAny_of_Z fuel _ a' w' h'.2) (h.2 i hi)⟩
def lastB (md:Region.Mode) (ops:Array Oper) (z:Nat):Bool:=decide (z<ops.size)&&decide (ops.size≤z+1)&&Region.sinkB md ops z&&Region.chainB md ops z
def closedB (md:Region.Mode) (ops:Array Oper) (z:Nat) (listed:Array Bool):Bool:=
 decide (listed.size=ops.size)&&((List.range ops.size).all fun j=> !listed.getD j false||((ops[j]?).map (·.after.all fun e=> !Region.binds md e||listed.getD e.on false)).getD true)&&(List.range ops.size).all fun t=>decide (t<z) || !listed.getD t true
theorem closed_inv {listed:Array Bool} (h:closedB md ops z listed=true):HeadInv md ops z listed:=by
 unfold closedB at h
 simp only[Bool.and_eq_true,decide_eq_true_eq] at h
 obtain ⟨⟨h0,h1⟩,h2⟩:=h
 refine ⟨h0,fun j oj hj hl e he hb=>?_,fun t ht ht'=>?_⟩
 ·
  have h3:=List.all_eq_true.1 h1 j (List.mem_range.2 (Array.getElem?_eq_some_iff.1 hj).1)
  rw[hl,hj] at h3
  simp only[Bool.not_true,Bool.false_or,Option.map_some,Option.getD_some] at h3
  have h4:=Array.all_eq_true'.1 h3 e he
  rw[hb] at h4
  simpa using h4
 ·
  have h3:=List.all_eq_true.1 h2 t (List.mem_range.2 ht')
  simp only[Bool.or_eq_true,decide_eq_true_eq,Bool.not_eq_true'] at h3
  rcases h3 with h3|h3
  ·
   omega
  ·
   exact h3
theorem wpAnyZ_first {i:Nat} {oi:Oper} {v:Value} (hi:ops[i]?=some oi) (hiz:i<z) (hsel:∀(j:Nat) (o:Oper) cs b,ops[j]?=some o→o.op ≠ .select cs b)
  (hlast:lastB md ops z=true) (hQ:∀c a w,Q (.panic c) (a.put oi.dst v) w→Q (.panic c) a w) :
  ∀(fuel:Nat) (listed:Array Bool) (a:Act) (w:World),HeadInv md ops z listed→
   (∀j oj,ops[j]?=some oj→j≠i→listed.getD j true=false→(∀e∈oj.after,Region.binds md e=true→e.on≠i)→oi.apart ops oj=true)→
   i∈Region.ready md ops listed→YieldsIf P ops S oi v a→S w→
   wpAnyZ P md ops Q S z fuel (listed.setIfInBounds i true) (a.put oi.dst v) w→wpAnyZ P md ops Q S z (fuel+1) listed a w:=by
 have hl:=hlast
 unfold lastB at hl
 simp only[Bool.and_eq_true,decide_eq_true_eq] at hl
 obtain ⟨⟨⟨hzs,hze⟩,hsink⟩,hchain⟩:=hl
 intro fuel
 induction fuel with
 | zero=>
  intro listed a w _ _ hr hy hS H
  refine ⟨fun h=>(by rw[h] at hr;cases hr),fun j hj=>?_⟩
  by_cases hji:j=i
  ·
   subst hji;exact hy.wpOp hi hS ⟨fun _=>hS,H⟩
  ·
   have:=ready_mono hj hji
   rw[H.1] at this
   cases this
 | succ fuel ih=>
  intro listed a w inv hfree hr hy hS H
  refine ⟨fun h=>(by rw[h] at hr;cases hr),fun j hj=>?_⟩
  by_cases hji:j=i
  ·
   subst hji;exact hy.wpOp hi hS ⟨fun _=>hS,H⟩
  ·
   have h1:=H.2 j (ready_mono hj hji)
   obtain ⟨hjun,oj,hoj,hall⟩:=mem_ready.1 hj
   have hiun:=(mem_ready.1 hr).1
   have hjz:j<z:=by
    rcases Nat.lt_or_ge j z with h|h
    ·
     exact h
    ·
     exact absurd hj (tail_waits hsink hchain hzs inv _ i rfl hiz hiun j h)
   have hnot:∀e∈oj.after,Region.binds md e=true→e.on≠i:=fun e he hb heq=>by
    have h1:=hall e he hb
    rw[heq,getD_both hiun] at h1
    cases h1
   have h2:=wpOp_putIf hoj (hfree j oj hoj hji hjun hnot) (fun cs b=>hsel i oi cs b hi) (fun cs b=>hsel j oj cs b hoj) hQ hy h1
   have hfree':∀k ok,ops[k]?=some ok→k≠i→(listed.setIfInBounds j true).getD k true=false→
     (∀e∈ok.after,Region.binds md e=true→e.on≠i)→oi.apart ops ok=true:=fun k ok hk hki hun hno=>by
    refine hfree k ok hk hki ?_ hno
    by_cases hjk:j=k
    ·
     subst hjk;exact hjun
    ·
     rw[getD_set_ne true hjk] at hun;exact hun
   refine wpOp_mono (fun a' w' h3=>⟨h3.2.1,ih (listed.setIfInBounds j true) a' w' (inv.set hj hjz) hfree' (ready_mono hr (Ne.symm hji)) h3.1 (h3.2.1 (by omega)) ?_⟩) h2
   rw[Array.setIfInBounds_comm _ _ hji]
   exact h3.2.2
theorem wpAnyZ_take {i:Nat} {oi:Oper} {v:Value} {fuel:Nat} {listed:Array Bool} {a:Act} {w:World} (hi:ops[i]?=some oi) (hlast:(decide (i<z)&&lastB md ops z&&closedB md ops z listed&&Region.noSelect ops&&Region.free md ops listed i&&(Region.ready md ops listed).contains i)=true)
  (hQ:∀c a w,Q (.panic c) (a.put oi.dst v) w→Q (.panic c) a w) (hw:Region.wanted oi (yielded ops a.tmps)=true) (hy:∀w,S w→(execOp a.eval oi).run P w= .ok (.value v) w) (hS:S w)
  (h:wpAnyZ P md ops Q S z fuel (listed.setIfInBounds i true) (a.put oi.dst v) w):wpAnyZ P md ops Q S z (fuel+1) listed a w:=by
 simp only[Bool.and_eq_true,decide_eq_true_eq] at hlast
 obtain ⟨⟨⟨⟨⟨h0,h1⟩,h2⟩,h3⟩,h4⟩,h5⟩:=hlast
 exact wpAnyZ_first hi h0 (Region.noSelect_spec h3) h1 hQ fuel listed a w (closed_inv h2) (Region.free_spec hi h4) (by simpa using h5) (Or.inl ⟨hw,hy⟩) hS h
def AllReadyZ (P:Program) (md:Region.Mode) (ops:Array Oper) (Q:Exit→Act→World→Prop) (S:World→Prop) (z fuel:Nat) (listed:Array Bool) (a:Act) (w:World) (rs:List Nat):Prop:=
 ∀i∈rs,wpOp P ops Q i (fun a' w'=>(i≠z→S w')∧wpAnyZ P md ops Q S z fuel (listed.setIfInBounds i true) a' w') a w
theorem AllReadyZ.nil {fuel:Nat} {listed:Array Bool} {a:Act} {w:World}:AllReadyZ P md ops Q S z fuel listed a w []:=fun _ h=>by cases h
theorem AllReadyZ.cons {fuel:Nat} {listed:Array Bool} {a:Act} {w:World} {i:Nat} {o:Oper} {rs:List Nat} (ho:ops[i]?=some o) (hw:Region.wanted o (yielded ops a.tmps)=true)
  (h:∀K':Act→World→Prop,Shut (∀a w,(i≠z→S w)→((i≠z→S w)→wpAnyZ P md ops Q S z fuel (listed.setIfInBounds i true) a w)→K' a w)→Oper.wp P o a w K' Q)
  (hs:AllReadyZ P md ops Q S z fuel listed a w rs):AllReadyZ P md ops Q S z fuel listed a w (i::rs):=fun j hj=>by
 rcases List.mem_cons.1 hj with rfl|hj
 ·
  exact wpOp_step ho (fun K' hK=>by rw[if_pos hw];exact h K' (fun a w hS hW=>hK a w ⟨hS,hW hS⟩))
 ·
  exact hs j hj
theorem wpAnyZ_ready {rs:List Nat} {fuel:Nat} {listed:Array Bool} {a:Act} {w:World} (hr:Region.ready md ops listed=rs) (hne:rs≠[])
  (h:AllReadyZ P md ops Q S z fuel listed a w rs):wpAnyZ P md ops Q S z (fuel+1) listed a w:=
 ⟨fun h0=>absurd (hr▸h0) hne,hr▸h⟩
theorem zt {oi:Oper} {v:Value} {fuel:Nat} {listed listed':Array Bool} {a a':Act} {w:World} (i:Nat) (hi:ops[i]?=some oi) (hS:S w) (hy:∀w,S w→(execOp a.eval oi).run P w= .ok (.value v) w) (h:wpAnyZ P md ops Q S z fuel listed' a' w) (hlast:(decide (i<z)&&lastB md ops z&&closedB md ops z listed&&Region.noSelect ops&&Region.free md ops listed i&&(Region.ready md ops listed).contains i)=true:=by kernel_rfl) (hQ:∀c a w,Q (.panic c) (a.put oi.dst v) w→Q (.panic c) a w:=by exact fun _ _ _ h=>h) (hw:Region.wanted oi (yielded ops a.tmps)=true:=by rfl) (ha:a.put oi.dst v=a':=by first|(simp only[Act.put,List.setIfInBounds_toArray,List.set_cons_zero,List.set_cons_succ];done)|(simp only[Act.put,List.setIfInBounds_toArray,List.set_cons_zero,List.set_cons_succ];rfl)|rfl) (hl:listed.setIfInBounds i true=listed':=by first|(simp only[Act.put,List.setIfInBounds_toArray,List.set_cons_zero,List.set_cons_succ];done)|(simp only[Act.put,List.setIfInBounds_toArray,List.set_cons_zero,List.set_cons_succ];rfl)|rfl):wpAnyZ P md ops Q S z (fuel+1) listed a w:=by
 subst ha hl
 exact wpAnyZ_take hi hlast hQ hw hy hS h
theorem zu {oi:Oper} {v:Value} {fuel:Nat} {listed listed':Array Bool} {a a':Act} {w:World} (i:Nat) (hi:ops[i]?=some oi) (hS:S w) (hy:∀w,S w→(execOp a.eval oi).run P w= .ok (.value v) w) (h:wpAnyZ P md ops Q S z fuel listed' a' w) (hlast:(decide (i<z)&&lastB md ops z&&closedB md ops z listed&&Region.noSelect ops&&Region.free md ops listed i&&(Region.ready md ops listed).contains i)=true:=by kernel_rfl) (hQ:∀c a w,Q (.panic c) (a.put oi.dst v) w→Q (.panic c) a w:=by exact fun _ _ _ h=>h) (hw:Region.wanted oi (yielded ops a.tmps)=true:=by rfl) (ha:a.put oi.dst v=a':=by first|(simp only[Act.put,List.getElem_toArray,List.getElem_cons_succ,List.getElem_cons_zero,List.setIfInBounds_toArray,List.set_cons_zero,List.set_cons_succ];done)|(simp only[Act.put,List.getElem_toArray,List.getElem_cons_succ,List.getElem_cons_zero,List.setIfInBounds_toArray,List.set_cons_zero,List.set_cons_succ];rfl)|rfl) (hl:listed.setIfInBounds i true=listed':=by first|(simp only[Act.put,List.getElem_toArray,List.getElem_cons_succ,List.getElem_cons_zero,List.setIfInBounds_toArray,List.set_cons_zero,List.set_cons_succ];done)|(simp only[Act.put,List.getElem_toArray,List.getElem_cons_succ,List.getElem_cons_zero,List.setIfInBounds_toArray,List.set_cons_zero,List.set_cons_succ];rfl)|rfl):wpAnyZ P md ops Q S z (fuel+1) listed a w:=by
 subst ha hl
 exact wpAnyZ_take hi hlast hQ hw hy hS h
theorem zs {fuel:Nat} {listed:Array Bool} {a:Act} {w:World} {o:Oper} (i:Nat) (ho:ops[i]?=some o) (h:∀K':Act→World→Prop,Shut (∀a w,(i≠z→S w)→((i≠z→S w)→wpAnyZ P md ops Q S z fuel (listed.setIfInBounds i true) a w)→K' a w)→Oper.wp P o a w K' Q) (hr:Region.ready md ops listed=[i]:=by kernel_rfl) (hw:Region.wanted o (yielded ops a.tmps)=true:=by rfl):wpAnyZ P md ops Q S z (fuel+1) listed a w:=wpAnyZ_ready hr (by simp) (AllReadyZ.cons ho hw h AllReadyZ.nil)
theorem wpAnyZ_done {listed:Array Bool} {a:Act} {w:World} (hr:Region.ready md ops listed=[]) (h:Q .normal a w):∀fuel,wpAnyZ P md ops Q S z fuel listed a w
 | 0=>⟨hr,h⟩
 | _+1=>⟨fun _=>h,by rw[hr];simp⟩
theorem wp_region_Z (z:Nat) (S:World→Prop) {id:Nat} {a:Act} {w:World} (hm:P.follows .mixedOrders=true)
  (h:wpAnyZ P .any ops Q S z ops.size (Array.replicate ops.size false) a w.drew):(Code.region id ops true).wp P Q a w:=
 wp_region_any hm (wpAny_of_Z _ _ _ _ h)
end
end Go.Proofs.YtnphdacibageiaaGreat
