import Derived.Test.YtnphdacibageiaaGreatRunFpFinds
import Derived.Test.YtnphdacibageiaaGreatRunFxBase
import Derived.Deep.RegionHeld3
import Derived.StillTailTactics
import Derived.Outline
import Derived.Test.YtnphdacibageiaaGreatRunFxMul
import Derived.BigQuiet
set_option linter.all false
set_option maxRecDepth 1000000
set_option maxHeartbeats 12800000
namespace Go.Proofs.YtnphdacibageiaaGreat
open Go.RowKit
def applyTE (nm text:ByteArray) (S:List Sr):Int:=if (findF nm).isSome=true then (if S.all isS=true then (if (rowF nm).kind=0 then errX text.data.toList else 0) else 1) else 9
noncomputable def grepS (nm text:ByteArray) (s:Sr):Bool:=isC (codeY text.data.toList) s.name.data.toList==(nm.toList==[103,114,101,112])
noncomputable def applyTS (nm text:ByteArray) (k:Vl) (S:List Sr):List Sr:=if applyTE nm text S=0 then (if (rowF nm).kind=0 then S.filter (grepS nm text) else pickA id (rowF nm) (normV k) S) else []
theorem kinds_all:(rowsL.all fun r=>decide (0≤r.kind)&&(decide (r.kind≤7)&&(r.kind != 0||(r.nm.data.toList==[101,120,99,108,117,100,101]||r.nm.data.toList==[103,114,101,112]))))=true:=by kernel_rfl
theorem kind_ok {nm:ByteArray} (h:(findF nm).isSome=true):0≤(rowF nm).kind∧(rowF nm).kind≤7∧((rowF nm).kind=0→(nm.toList==[101,120,99,108,117,100,101])=true∨(nm.toList==[103,114,101,112])=true):=by
 obtain ⟨hm,hn⟩:=rowF_some h
 have h1:=List.all_eq_true.1 kinds_all _ hm
 simp only[Bool.and_eq_true,decide_eq_true_eq,Bool.or_eq_true,bne_iff_ne,ne_eq] at h1
 obtain ⟨h2,h3,h4⟩:=h1
 refine ⟨h2,h3,fun h0=>?_⟩
 rcases h4 with h4|h4|h4
 ·
  exact absurd h0 h4
 ·
  exact .inl (nm_is hn h4)
 ·
  exact .inr (nm_is hn h4)
theorem grep_map (nm text:ByteArray) (L:List Sq):(L.filter (grepB nm text)).map Sq.s=(L.map Sq.s).filter (grepS nm text):=by
 induction L with
 | nil=>rfl
 | cons x L ih=>
  rw[List.map_cons,List.filter_cons,List.filter_cons]
  have e:grepS nm text x.s=grepB nm text x:=rfl
  rw[e]
  cases grepB nm text x
  ·
   simpa using ih
  ·
   simp[ih]
theorem applyT_zero {nm text:ByteArray} {k:Vl} {L:List Sq} (hf:(findF nm).isSome=true) (hok:okL L=true) (h0:(rowF nm).kind=0) :
  applyTE nm text (L.map Sq.s)=errX text.data.toList∧applyTS nm text k (L.map Sq.s)=(bif errX text.data.toList==0 then L.filter (grepB nm text) else []).map Sq.s:=by
 have hE:applyTE nm text (L.map Sq.s)=errX text.data.toList:=by unfold applyTE;rw[if_pos hf,okL_s,if_pos hok,if_pos h0]
 refine ⟨hE,?_⟩
 unfold applyTS
 rw[hE]
 by_cases he:errX text.data.toList=0
 ·
  rw[if_pos he,if_pos h0,beq_iff_eq.2 he,cond_true,grep_map]
 ·
  rw[if_neg he,beq_eq_false_iff_ne.2 he,cond_false]
  rfl
theorem applyT_more {nm text:ByteArray} {k:Vl} {L:List Sq} (hf:(findF nm).isSome=true) (hok:okL L=true) (h0:(rowF nm).kind≠0) :
  applyTE nm text (L.map Sq.s)=0∧applyTS nm text k (L.map Sq.s)=(pickA Sq.s (rowF nm) (normV k) L).map Sq.s:=by
 have hE:applyTE nm text (L.map Sq.s)=0:=by unfold applyTE;rw[if_pos hf,okL_s,if_pos hok,if_neg h0]
 refine ⟨hE,?_⟩
 unfold applyTS
 rw[hE,if_pos rfl,if_neg h0,pick_s]
theorem applyT_no {nm text:ByteArray} {k:Vl} {S:List Sr} (hf:(findF nm).isSome=false):applyTE nm text S=9∧applyTS nm text k S=[]:=by
 have hE:applyTE nm text S=9:=by unfold applyTE;rw[hf];rfl
 exact ⟨hE,by unfold applyTS;rw[hE];rfl⟩
theorem applyT_bad {nm text:ByteArray} {k:Vl} {L:List Sq} (hf:(findF nm).isSome=true) (hok:okL L=false):applyTE nm text (L.map Sq.s)=1∧applyTS nm text k (L.map Sq.s)=[]:=by
 have hE:applyTE nm text (L.map Sq.s)=1:=by unfold applyTE;rw[if_pos hf,okL_s,hok];rfl
 exact ⟨hE,by unfold applyTS;rw[hE];rfl⟩
theorem applyt_any (nm text:ByteArray) (k:Vl) (A:Option Addr) (c:Nat) (L:List Sq) (w:World) (ht:text.size≤500) (hC:CmpY text) (hn4:∀x∈L,x.s.name.size≤4096) (h20:L.length≤20) (hcap:L.length≤c) (hle:∀x∈L,x.s.vals.length≤1000000) (hr:Rl w A L) (hv:Lie w L) :
  Calls Tryz.prog 11 #[.string nm, .agg #[.bool k.ok, .int .i64 k.n], .string text, .slice A L.length c] w (RetA (applyTE nm text (L.map Sq.s)) (applyTS nm text k (L.map Sq.s)) w):=by
 cases hf:(findF nm).isSome
 ·
  obtain ⟨e1,e2⟩:=applyT_no (text:=text) (k:=k) (S:=L.map Sq.s) hf
  rw[e1,e2]
  exact apply_no nm text k A c L w hf
 ·
  cases hok:okL L
  ·
   obtain ⟨e1,e2⟩:=applyT_bad (text:=text) (k:=k) hf hok
   rw[e1,e2]
   exact apply_bad nm text k A c L w hf hok h20 hr hv
  ·
   obtain ⟨g1,g2,g3⟩:=kind_ok hf
   by_cases h0:(rowF nm).kind=0
   ·
    obtain ⟨e1,e2⟩:=applyT_zero (text:=text) (k:=k) hf hok h0
    rw[e1,e2]
    exact finds_any nm text k A c L w hf hok h0 ht hC hn4 h20 hle hr hv
   ·
    obtain ⟨e1,e2⟩:=applyT_more (text:=text) (k:=k) hf hok h0
    rw[e1,e2]
    cases hk:isB k
    ·
     exact apply_none nm text k A c L w hf hok hk (by omega) g2 h20 hcap hle hr hv
    ·
     exact apply_yes nm text k A c L w hf hok hk (by omega) g2 h20 hcap hle hr hv
theorem rknown_vals_any (A:Option Addr) (c:Nat) (l:List Vl) (w:World) (hl:l.length≤1000000) (hr:Rv w A l) :
  Calls Tryz.prog 67 #[.slice A l.length c] w (RetV (kn l) w):=by
 have hl':(l.length:Int)≤1000000:=by omega
 obtain ⟨i0,hi,hz0,hz1,hz2⟩:=info_parts info_val
 go_enter Tryz.func67,Tryz.ntmps67
 go_wp2
 go_loopw [3,4] (fun v i wr=>∃k:Nat,k≤l.length∧i= .int .i64 k∧Gr w wr∧wr.ownsRow w.heap.size 25 2 v (kn (l.take k)).length (vcells (kn (l.take k))))
  (fun _ i _=>l.length-(intOf i).toNat)
 case atStart=>exact ⟨0,Nat.zero_le _,rfl,Gr.refl _,World.ownsRow_nil _ _ _ _⟩
 case round=>
  obtain ⟨k,hk,rfl,hgr,hown⟩:=hrel
  by_cases hlt:k<l.length
  ·
   have hra:=hr.gr hgr
   obtain ⟨ad,rfl,hb,hx0,hx1⟩:=hra.at hlt
   have Ht:=Lib.hid (kn_take hlt)
   have hkl:=kn_take_len l k
   cases hkn:knB l[k]
   ·
    rw[hkn] at Ht
    go_wp2_with fail
    refine (rkn_any l[k] _).mono ?_;rintro e w1 ⟨rfl,hg⟩
    have hown1:=own_gr hown hg
    go_wp2
    go_roundw
    case rel=>exact ⟨k+1,by omega,by go_num,gq,by rw[Ht.out];simpa using hown1⟩
    case measure=>simp[intOf];omega
   ·
    rw[hkn] at Ht
    go_wp2_with fail
    refine (rkn_any l[k] _).mono ?_;rintro e w1 ⟨rfl,hg⟩
    have hown1:=own_gr hown hg
    have hgw1:Gr w w1:=gq
    have hy0:=(hg.cell (p:=ad.add (k*2)) (by rw[add_blk];exact hb)).trans hx0
    have hy1:=(hg.cell (p:=⟨(ad.add (k*2)).block,(ad.add (k*2)).off+1,none⟩) (by rw[add_blk];exact hb)).trans hx1
    have z2:=hgw1.size
    have hrx:=Rv.new (W:=w1) rfl 25 [l[k]]
    have hv0:=(hown1.alloc (.cells (vcells [l[k]]).toArray 25))
    have hvl:=hown1.lt
    clear hx0 hx1
    go_wp2_with (at_builtin;refine wpList_append_rd rfl (.tmp 16) (.tmp 21) 32 rfl w.heap.size 25 i0 _ 2 16 Tryz.underlying32 hi hz0 hz1 hz2 rfl (by decide) _ _ _ rfl hv0 (some ⟨w1.heap.size,0,none⟩) 1 _ (vcells [l[k]]) rfl hrx (vcells_one _) (by unfold maxLen;omega) (by omega) (by simp;omega) ?_;intro v' w2 hown2 hgr2 hat2)
    have hg2:Gr w w2:=Gr.grown (Gr.alloc hgw1 _) hgr2 (fun k hk=>(hvl k hk).1)
    clear hv0 hvl hgr2 hat2 hrx
    go_wp2
    go_roundw
    case rel=>exact ⟨k+1,by omega,by go_num,hg2,by rw[Ht.out];simpa [vcells_append] using hown2⟩
    case measure=>simp[intOf];omega
  ·
   have hkk:k=l.length:=by omega
   subst hkk
   rw[List.take_length] at hown
   obtain ⟨A',c',hv⟩:=own_form hown
   subst hv
   go_wp2
   go_ret
   exact ⟨A',c',rfl,Rd.own hown,hgr⟩
theorem radd_any (A:Option Addr) (c:Nat) (l:List Vl) (w:World) (hl:l.length≤maxLen) (hr:Rv w A l) :
  Calls Tryz.prog 71 #[.slice A l.length c] w fun e w'=>e= .returned (.agg #[.bool (addV l).ok, .int .i64 (addV l).n])∧Gr w w':=by
 unfold maxLen at hl
 go_enter Tryz.func71,Tryz.ntmps71
 go_wp2_with fail
 refine (rof_any 0 _).mono ?_;rintro e w1 ⟨rfl,hg⟩;obtain ⟨hc,hf⟩:=hg.cells;have hz:=hg.size;(try simp at hz);have z0:w.heap.size<w1.heap.size:=(by omega)
 go_wp2
 go_loopw [4] (fun i wr=>∃k:Nat,k≤l.length∧i= .int .i64 k∧Gr w wr∧w1.heap.size<wr.heap.size∧
   wr.cell? ⟨w.heap.size,0,none⟩=some (.bool false)∧wr.cell? ⟨w.heap.size,1,none⟩=some (.int .i64 0)∧wr.frozen? ⟨w.heap.size,0,none⟩=false∧wr.frozen? ⟨w.heap.size,1,none⟩=false∧
   wr.cell? ⟨w1.heap.size,0,none⟩=some (.bool (addV (l.take k)).ok)∧wr.cell? ⟨w1.heap.size,1,none⟩=some (.int .i64 (addV (l.take k)).n)∧
   wr.frozen? ⟨w1.heap.size,0,none⟩=false∧wr.frozen? ⟨w1.heap.size,1,none⟩=false)
  (fun i _=>l.length-(intOf i).toNat)
 case atStart=>exact ⟨0,Nat.zero_le _,rfl,gq,by simp,by go_simp,by go_simp,by go_simp,by go_simp,by go_simp;rfl,by go_simp;rfl,by go_simp,by go_simp⟩
 case round=>
  obtain ⟨k,hk,rfl,hgr,hzr,r0,r1,rf0,rf1,a0,a1,af0,af1⟩:=hrel
  by_cases hlt:k<l.length
  ·
   obtain ⟨ad,rfl,hb,hx0,hx1⟩:=(hr.gr hgr).at hlt
   have ht:=addV_take hlt
   have Ht:=Lib.hid ht;clear ht
   go_wp2
   go_still_tail 5,(by kernel_rfl)
   change wpList _ _ _ _ _ wr.drew
   go_wp2_with fail
   refine (plus_any (addV (l.take k)) l[k] _).mono ?_;rintro e w2 ⟨rfl,hg2⟩;have hc2:∀b o,b<wr.heap.size→w2.cell? ⟨b,o,none⟩=wr.cell? ⟨b,o,none⟩:=hg2.cells.1;have hf2:∀b o,b<wr.heap.size→w2.frozen? ⟨b,o,none⟩=wr.frozen? ⟨b,o,none⟩:=hg2.cells.2;have hz2:wr.heap.size≤w2.heap.size:=hg2.size
   have y0:w.heap.size<wr.heap.size:=(by omega)
   have y2:w1.heap.size<w2.heap.size:=(by omega)
   go_wp2
   go_roundw
   case rel=>
    refine ⟨k+1,by omega,by go_num,gq,by simp;omega,by go_simp,by go_simp,by go_simp,by go_simp,?_,?_,by go_simp,by go_simp⟩
    ·
     rw[Ht.out];go_simp
    ·
     rw[Ht.out];go_simp
   case measure=>simp[intOf];omega
  ·
   have hkk:k=l.length:=by omega
   subst hkk
   rw[List.take_length] at a0 a1
   go_wp2
   exact bodyPost_ret (v:= .agg #[.bool (addV l).ok, .int .i64 (addV l).n]) (by simp[results,Tryz.results71,go_sem, *]) rfl ⟨rfl,gq⟩
theorem lessB_kn {a b:Vl} (ha:knB a=true) (hb:knB b=true):lessB a b=decide (a.n<b.n):=by simp[lessB,ha,hb]
theorem kn_all {l:List Vl} {i:Nat} (h:i<(kn l).length):knB (kn l)[i]=true:=(List.mem_filter.1 (List.getElem_mem h)).2
theorem max_one (x:Vl):maxV x [x]=x:=by simp[maxV,lessB]
theorem min_one (x:Vl):minV x [x]=x:=by simp[minV,lessB]
theorem take_one {K:List Vl} (h0:0<K.length):K.take 1=[K[0]]:=by
 cases K with
 | nil=>simp at h0
 | cons a r=>rfl
theorem rof_nil (kind:Int) (A:Option Addr) (c:Nat) (l:List Vl) (w:World) (hl:l.length≤1000000) (hr:Rv w A l) (h0:(kn l).length=0) :
  Calls Tryz.prog 36 #[.int .i64 kind, .slice A l.length c] w fun e w'=>e= .returned (.agg #[.bool (⟨false,0⟩:Vl).ok, .int .i64 (⟨false,0⟩:Vl).n])∧Gr w w':=by
 obtain ⟨K,hK⟩:∃K,K=kn l:=⟨_,rfl⟩
 have hn:(((kn l).length:Int)==0)=true:=by simp[h0]
 have hn':((kn l).length==0)=true:=by simp[h0]
 have H0:=Lib.hid h0;clear h0 hK
 go_enter Tryz.func36,Tryz.ntmps36
 go_wp2_with fail
 refine (rknown_vals_any A c l _ hl (hr.gr (Gr.alloc (Gr.refl _) _))).mono ?_;rintro e w1 ⟨A',c',rfl,hrv,hg⟩
 obtain ⟨hc,hf⟩:=hg.cells
 have z0:w.heap.size<w1.heap.size:=by have:=hg.size;simp at this;omega
 have q0:w1.cell? ⟨w.heap.size,0,none⟩=some (.bool false):=by go_simp
 have q1:w1.cell? ⟨w.heap.size,1,none⟩=some (.int .i64 0):=by go_simp
 have f0:w1.frozen? ⟨w.heap.size,0,none⟩=false:=by go_simp
 have f1:w1.frozen? ⟨w.heap.size,1,none⟩=false:=by go_simp
 have hgw:Gr w w1:=gq
 clear hc hf hg
 go_wp2
 exact bodyPost_ret (v:= .agg #[.bool false, .int .i64 0]) (by simp[results,Tryz.results36,go_sem, *]) rfl ⟨rfl,gq⟩
theorem rof_low (kind:Int) (e1:kind<1) (A:Option Addr) (c:Nat) (l:List Vl) (w:World) (hl:l.length≤1000000) (hr:Rv w A l) (K:List Vl) (hK:kn l=K) (h0:0<K.length) :
  Calls Tryz.prog 36 #[.int .i64 kind, .slice A l.length c] w fun e w'=>e= .returned (.agg #[.bool (⟨false,0⟩:Vl).ok, .int .i64 (⟨false,0⟩:Vl).n])∧Gr w w':=by
 have hlen:K.length≤1000000:=by rw[←hK];exact Nat.le_trans (kn_len l) hl
 obtain ⟨hn,hn'⟩:=len_facts h0
 have hlK:(K.length:Int)≤1000000:=by omega
 have hpK:(0:Int)<(K.length:Int):=by omega
 go_enter Tryz.func36,Tryz.ntmps36
 go_wp2_with fail
 refine (rknown_vals_any A c l _ hl (hr.gr (Gr.alloc (Gr.refl _) _))).mono ?_;rintro e w1 ⟨A',c',rfl,hrv,hg⟩
 obtain ⟨hc,hf⟩:=hg.cells
 have z0:w.heap.size<w1.heap.size:=by have:=hg.size;simp at this;omega
 have q0:w1.cell? ⟨w.heap.size,0,none⟩=some (.bool false):=by go_simp
 have q1:w1.cell? ⟨w.heap.size,1,none⟩=some (.int .i64 0):=by go_simp
 have f0:w1.frozen? ⟨w.heap.size,0,none⟩=false:=by go_simp
 have f1:w1.frozen? ⟨w.heap.size,1,none⟩=false:=by go_simp
 have hgw:Gr w w1:=gq
 clear hc hf hg
 rw[hK] at hrv ⊢
 go_wp2
 exact bodyPost_ret (v:= .agg #[.bool false, .int .i64 0]) (by simp[results,Tryz.results36,go_sem, *]) rfl ⟨rfl,gq⟩
theorem rof_high (kind:Int) (e1:5<kind) (A:Option Addr) (c:Nat) (l:List Vl) (w:World) (hl:l.length≤1000000) (hr:Rv w A l) (K:List Vl) (hK:kn l=K) (h0:0<K.length) :
  Calls Tryz.prog 36 #[.int .i64 kind, .slice A l.length c] w fun e w'=>e= .returned (.agg #[.bool (⟨false,0⟩:Vl).ok, .int .i64 (⟨false,0⟩:Vl).n])∧Gr w w':=by
 have hlen:K.length≤1000000:=by rw[←hK];exact Nat.le_trans (kn_len l) hl
 obtain ⟨hn,hn'⟩:=len_facts h0
 have hlK:(K.length:Int)≤1000000:=by omega
 have hpK:(0:Int)<(K.length:Int):=by omega
 have e2:¬kind<1:=by omega
 go_enter Tryz.func36,Tryz.ntmps36
 go_wp2_with fail
 refine (rknown_vals_any A c l _ hl (hr.gr (Gr.alloc (Gr.refl _) _))).mono ?_;rintro e w1 ⟨A',c',rfl,hrv,hg⟩
 obtain ⟨hc,hf⟩:=hg.cells
 have z0:w.heap.size<w1.heap.size:=by have:=hg.size;simp at this;omega
 have q0:w1.cell? ⟨w.heap.size,0,none⟩=some (.bool false):=by go_simp
 have q1:w1.cell? ⟨w.heap.size,1,none⟩=some (.int .i64 0):=by go_simp
 have f0:w1.frozen? ⟨w.heap.size,0,none⟩=false:=by go_simp
 have f1:w1.frozen? ⟨w.heap.size,1,none⟩=false:=by go_simp
 have hgw:Gr w w1:=gq
 clear hc hf hg
 rw[hK] at hrv ⊢
 go_wp2
 exact bodyPost_ret (v:= .agg #[.bool false, .int .i64 0]) (by simp[results,Tryz.results36,go_sem, *]) rfl ⟨rfl,gq⟩
theorem rof_max (A:Option Addr) (c:Nat) (l:List Vl) (w:World) (hl:l.length≤1000000) (hr:Rv w A l) (K:List Vl) (hK:kn l=K) (h0:0<K.length) :
  Calls Tryz.prog 36 #[.int .i64 4, .slice A l.length c] w fun e w'=>e= .returned (.agg #[.bool (maxV K[0] K).ok, .int .i64 (maxV K[0] K).n])∧Gr w w':=by
 have hlen:K.length≤1000000:=by rw[←hK];exact Nat.le_trans (kn_len l) hl
 obtain ⟨hn,hn'⟩:=len_facts h0
 have hlK:(K.length:Int)≤1000000:=by omega
 have hpK:(0:Int)<(K.length:Int):=by omega
 have hkx:knB K[0]=true:=by subst hK;exact kn_all h0
 have hkK:∀i (h:i<K.length),knB K[i]=true:=by subst hK;exact fun i h=>kn_all h
 obtain ⟨x,hx⟩:∃x,K[0]=x:=⟨_,rfl⟩
 have ht1:K.take 1=[x]:=by rw[←hx];exact take_one h0
 rw[hx] at hkx
 rw[hx]
 have HT1:=Lib.hid ht1;clear ht1
 have HKX:=Lib.hid hkx;clear hkx
 have HKK:=Lib.hid hkK;clear hkK
 go_enter Tryz.func36,Tryz.ntmps36
 go_wp2_with fail
 refine (rknown_vals_any A c l _ hl (hr.gr (Gr.alloc (Gr.refl _) _))).mono ?_;rintro e w1 ⟨A',c',rfl,hrv,hg⟩
 obtain ⟨hc,hf⟩:=hg.cells
 have z0:w.heap.size<w1.heap.size:=by have:=hg.size;simp at this;omega
 have q0:w1.cell? ⟨w.heap.size,0,none⟩=some (.bool false):=by go_simp
 have q1:w1.cell? ⟨w.heap.size,1,none⟩=some (.int .i64 0):=by go_simp
 have f0:w1.frozen? ⟨w.heap.size,0,none⟩=false:=by go_simp
 have f1:w1.frozen? ⟨w.heap.size,1,none⟩=false:=by go_simp
 have hgw:Gr w w1:=gq
 clear hc hf hg
 rw[hK] at hrv ⊢
 have HK:=Lib.hid hK;clear hK
 obtain ⟨ad,hAd,hb,hx0,hx1⟩:=hrv.at h0
 subst hAd
 rw[Nat.zero_mul] at hx0 hx1
 have ha0:ad.add 0=ad:=rfl
 rw[ha0] at hx0 hx1
 rw[hx] at hx0 hx1
 have HX:=Lib.hid hx;clear hx
 go_wp2
 go_loopw [7] (fun i wr=>∃(k:Nat) (b:Vl),k≤K.length∧1≤k∧i= .int .i64 k∧Gr w1 wr∧w1.heap.size<wr.heap.size∧
   wr.cell? ⟨w1.heap.size,0,none⟩=some (.bool b.ok)∧wr.cell? ⟨w1.heap.size,1,none⟩=some (.int .i64 b.n)∧
   wr.frozen? ⟨w1.heap.size,0,none⟩=false∧wr.frozen? ⟨w1.heap.size,1,none⟩=false∧knB b=true∧maxV x (K.take k)=b)
  (fun i _=>K.length-(intOf i).toNat)
 case atStart=>exact ⟨1,x,h0,Nat.le_refl _,rfl,gq,by simp,by go_simp,by go_simp,by go_simp,by go_simp,HKX.out,(by rw[HT1.out];exact max_one x)⟩
 case round=>
  obtain ⟨k,b,hk,hk1,rfl,hgr,hzr,a0,a1,af0,af1,hkb,hbm⟩:=hrel
  by_cases hlt:k<K.length
  ·
   obtain ⟨ad',hAd,hb',hy0,hy1⟩:=(hrv.gr hgr).at hlt
   obtain rfl:ad=ad':=by injection hAd
   clear hAd
   have hkk:=HKK.out k hlt
   have Ht:=max_take (x:=x) hlt
   rw[hbm,lessB_kn hkb hkk] at Ht
   clear hbm
   cases hd:decide (b.n<K[k].n)
   ·
    rw[hd] at Ht
    have HKB:=Lib.hid hkb;clear hkb
    have HKK1:=Lib.hid hkk;clear hkk
    have HT:=Lib.hid Ht;clear Ht
    go_wp2
    go_quiet (fail)
    go_wp2
    go_roundw
    case rel=>exact ⟨k+1,b,by omega,by omega,by go_num,(by repeat (first|exact Gr.refl _|assumption|refine Gr.drewN ?_ _|refine Gr.alloc ?_ _|refine Gr.drew ?_|refine Gr.setCell ?_ (by first|(simp;done)|(simp;omega)|omega) _|refine Gr.trans ?_ (by assumption))),by (try simp);omega,by go_simp,by go_simp,by go_simp,by go_simp,HKB.out,HT.out⟩
    case measure=>simp[intOf];omega
   ·
    rw[hd] at Ht
    have HKB:=Lib.hid hkb;clear hkb
    have HKK1:=Lib.hid hkk;clear hkk
    have HT:=Lib.hid Ht;clear Ht
    go_wp2
    go_quiet (fail)
    go_wp2
    go_roundw
    case rel=>exact ⟨k+1,K[k],by omega,by omega,by go_num,(by repeat (first|exact Gr.refl _|assumption|refine Gr.drewN ?_ _|refine Gr.alloc ?_ _|refine Gr.drew ?_|refine Gr.setCell ?_ (by first|(simp;done)|(simp;omega)|omega) _|refine Gr.trans ?_ (by assumption))),by (try simp);omega,by go_simp,by go_simp,by go_simp,by go_simp,HKK1.out,HT.out⟩
    case measure=>simp[intOf];omega
  ·
   have hkk:k=K.length:=by omega
   subst hkk
   try rw[List.take_length] at hbm
   subst hbm
   have x0:=(hgr.cell (p:=⟨w.heap.size,0,none⟩) z0).trans q0
   have x1:=(hgr.cell (p:=⟨w.heap.size,1,none⟩) z0).trans q1
   have y0:=(hgr.frozen (p:=⟨w.heap.size,0,none⟩) z0).trans f0
   have y1:=(hgr.frozen (p:=⟨w.heap.size,1,none⟩) z0).trans f1
   go_wp2
   exact bodyPost_ret (v:= .agg #[.bool (maxV x K).ok, .int .i64 (maxV x K).n]) (by simp[results,Tryz.results36,go_sem, *]) rfl ⟨rfl,gq⟩
theorem rof_min (A:Option Addr) (c:Nat) (l:List Vl) (w:World) (hl:l.length≤1000000) (hr:Rv w A l) (K:List Vl) (hK:kn l=K) (h0:0<K.length) :
  Calls Tryz.prog 36 #[.int .i64 5, .slice A l.length c] w fun e w'=>e= .returned (.agg #[.bool (minV K[0] K).ok, .int .i64 (minV K[0] K).n])∧Gr w w':=by
 have hlen:K.length≤1000000:=by rw[←hK];exact Nat.le_trans (kn_len l) hl
 obtain ⟨hn,hn'⟩:=len_facts h0
 have hlK:(K.length:Int)≤1000000:=by omega
 have hpK:(0:Int)<(K.length:Int):=by omega
 have hkx:knB K[0]=true:=by subst hK;exact kn_all h0
 have hkK:∀i (h:i<K.length),knB K[i]=true:=by subst hK;exact fun i h=>kn_all h
 obtain ⟨x,hx⟩:∃x,K[0]=x:=⟨_,rfl⟩
 have ht1:K.take 1=[x]:=by rw[←hx];exact take_one h0
 rw[hx] at hkx
 rw[hx]
 have HT1:=Lib.hid ht1;clear ht1
 have HKX:=Lib.hid hkx;clear hkx
 have HKK:=Lib.hid hkK;clear hkK
 go_enter Tryz.func36,Tryz.ntmps36
 go_wp2_with fail
 refine (rknown_vals_any A c l _ hl (hr.gr (Gr.alloc (Gr.refl _) _))).mono ?_;rintro e w1 ⟨A',c',rfl,hrv,hg⟩
 obtain ⟨hc,hf⟩:=hg.cells
 have z0:w.heap.size<w1.heap.size:=by have:=hg.size;simp at this;omega
 have q0:w1.cell? ⟨w.heap.size,0,none⟩=some (.bool false):=by go_simp
 have q1:w1.cell? ⟨w.heap.size,1,none⟩=some (.int .i64 0):=by go_simp
 have f0:w1.frozen? ⟨w.heap.size,0,none⟩=false:=by go_simp
 have f1:w1.frozen? ⟨w.heap.size,1,none⟩=false:=by go_simp
 have hgw:Gr w w1:=gq
 clear hc hf hg
 rw[hK] at hrv ⊢
 have HK:=Lib.hid hK;clear hK
 obtain ⟨ad,hAd,hb,hx0,hx1⟩:=hrv.at h0
 subst hAd
 rw[Nat.zero_mul] at hx0 hx1
 have ha0:ad.add 0=ad:=rfl
 rw[ha0] at hx0 hx1
 rw[hx] at hx0 hx1
 have HX:=Lib.hid hx;clear hx
 go_wp2
 go_loopw [7] (fun i wr=>∃(k:Nat) (b:Vl),k≤K.length∧1≤k∧i= .int .i64 k∧Gr w1 wr∧w1.heap.size<wr.heap.size∧
   wr.cell? ⟨w1.heap.size,0,none⟩=some (.bool b.ok)∧wr.cell? ⟨w1.heap.size,1,none⟩=some (.int .i64 b.n)∧
   wr.frozen? ⟨w1.heap.size,0,none⟩=false∧wr.frozen? ⟨w1.heap.size,1,none⟩=false∧knB b=true∧minV x (K.take k)=b)
  (fun i _=>K.length-(intOf i).toNat)
 case atStart=>exact ⟨1,x,h0,Nat.le_refl _,rfl,gq,by simp,by go_simp,by go_simp,by go_simp,by go_simp,HKX.out,(by rw[HT1.out];exact min_one x)⟩
 case round=>
  obtain ⟨k,b,hk,hk1,rfl,hgr,hzr,a0,a1,af0,af1,hkb,hbm⟩:=hrel
  by_cases hlt:k<K.length
  ·
   obtain ⟨ad',hAd,hb',hy0,hy1⟩:=(hrv.gr hgr).at hlt
   obtain rfl:ad=ad':=by injection hAd
   clear hAd
   have hkk:=HKK.out k hlt
   have Ht:=min_take (x:=x) hlt
   rw[hbm,lessB_kn hkk hkb] at Ht
   clear hbm
   cases hd:decide (K[k].n<b.n)
   ·
    rw[hd] at Ht
    have HKB:=Lib.hid hkb;clear hkb
    have HKK1:=Lib.hid hkk;clear hkk
    have HT:=Lib.hid Ht;clear Ht
    go_wp2
    go_quiet (fail)
    go_wp2
    go_roundw
    case rel=>exact ⟨k+1,b,by omega,by omega,by go_num,(by repeat (first|exact Gr.refl _|assumption|refine Gr.drewN ?_ _|refine Gr.alloc ?_ _|refine Gr.drew ?_|refine Gr.setCell ?_ (by first|(simp;done)|(simp;omega)|omega) _|refine Gr.trans ?_ (by assumption))),by (try simp);omega,by go_simp,by go_simp,by go_simp,by go_simp,HKB.out,HT.out⟩
    case measure=>simp[intOf];omega
   ·
    rw[hd] at Ht
    have HKB:=Lib.hid hkb;clear hkb
    have HKK1:=Lib.hid hkk;clear hkk
    have HT:=Lib.hid Ht;clear Ht
    go_wp2
    go_quiet (fail)
    go_wp2
    go_roundw
    case rel=>exact ⟨k+1,K[k],by omega,by omega,by go_num,(by repeat (first|exact Gr.refl _|assumption|refine Gr.drewN ?_ _|refine Gr.alloc ?_ _|refine Gr.drew ?_|refine Gr.setCell ?_ (by first|(simp;done)|(simp;omega)|omega) _|refine Gr.trans ?_ (by assumption))),by (try simp);omega,by go_simp,by go_simp,by go_simp,by go_simp,HKK1.out,HT.out⟩
    case measure=>simp[intOf];omega
  ·
   have hkk:k=K.length:=by omega
   subst hkk
   try rw[List.take_length] at hbm
   subst hbm
   have x0:=(hgr.cell (p:=⟨w.heap.size,0,none⟩) z0).trans q0
   have x1:=(hgr.cell (p:=⟨w.heap.size,1,none⟩) z0).trans q1
   have y0:=(hgr.frozen (p:=⟨w.heap.size,0,none⟩) z0).trans f0
   have y1:=(hgr.frozen (p:=⟨w.heap.size,1,none⟩) z0).trans f1
   go_wp2
   exact bodyPost_ret (v:= .agg #[.bool (minV x K).ok, .int .i64 (minV x K).n]) (by simp[results,Tryz.results36,go_sem, *]) rfl ⟨rfl,gq⟩
theorem rof_sum (A:Option Addr) (c:Nat) (l:List Vl) (w:World) (hl:l.length≤1000000) (hr:Rv w A l) (K:List Vl) (hK:kn l=K) (h0:0<K.length) :
  Calls Tryz.prog 36 #[.int .i64 2, .slice A l.length c] w fun e w'=>e= .returned (.agg #[.bool (addV K).ok, .int .i64 (addV K).n])∧Gr w w':=by
 have hlen:K.length≤1000000:=by rw[←hK];exact Nat.le_trans (kn_len l) hl
 obtain ⟨hn,hn'⟩:=len_facts h0
 have hlK:(K.length:Int)≤1000000:=by omega
 have hpK:(0:Int)<(K.length:Int):=by omega
 have hkx:knB K[0]=true:=by subst hK;exact kn_all h0
 have hkK:∀i (h:i<K.length),knB K[i]=true:=by subst hK;exact fun i h=>kn_all h
 obtain ⟨x,hx⟩:∃x,K[0]=x:=⟨_,rfl⟩
 have ht1:K.take 1=[x]:=by rw[←hx];exact take_one h0
 rw[hx] at hkx
 have HT1:=Lib.hid ht1;clear ht1
 have HKX:=Lib.hid hkx;clear hkx
 have HKK:=Lib.hid hkK;clear hkK
 go_enter Tryz.func36,Tryz.ntmps36
 go_wp2_with fail
 refine (rknown_vals_any A c l _ hl (hr.gr (Gr.alloc (Gr.refl _) _))).mono ?_;rintro e w1 ⟨A',c',rfl,hrv,hg⟩
 obtain ⟨hc,hf⟩:=hg.cells
 have z0:w.heap.size<w1.heap.size:=by have:=hg.size;simp at this;omega
 have q0:w1.cell? ⟨w.heap.size,0,none⟩=some (.bool false):=by go_simp
 have q1:w1.cell? ⟨w.heap.size,1,none⟩=some (.int .i64 0):=by go_simp
 have f0:w1.frozen? ⟨w.heap.size,0,none⟩=false:=by go_simp
 have f1:w1.frozen? ⟨w.heap.size,1,none⟩=false:=by go_simp
 have hgw:Gr w w1:=gq
 clear hc hf hg
 rw[hK] at hrv ⊢
 have HK:=Lib.hid hK;clear hK
 obtain ⟨ad,hAd,hb,hx0,hx1⟩:=hrv.at h0
 subst hAd
 rw[Nat.zero_mul] at hx0 hx1
 have ha0:ad.add 0=ad:=rfl
 rw[ha0] at hx0 hx1
 rw[hx] at hx0 hx1
 have HX:=Lib.hid hx;clear hx
 go_wp2
 go_loopw [7] (fun i wr=>∃(k:Nat) (b:Vl),k≤K.length∧1≤k∧i= .int .i64 k∧Gr w1 wr∧w1.heap.size<wr.heap.size∧
   wr.cell? ⟨w1.heap.size,0,none⟩=some (.bool b.ok)∧wr.cell? ⟨w1.heap.size,1,none⟩=some (.int .i64 b.n)∧
   wr.frozen? ⟨w1.heap.size,0,none⟩=false∧wr.frozen? ⟨w1.heap.size,1,none⟩=false∧knB b=true∧x=b)
  (fun i _=>K.length-(intOf i).toNat)
 case atStart=>exact ⟨1,x,h0,Nat.le_refl _,rfl,gq,by simp,by go_simp,by go_simp,by go_simp,by go_simp,HKX.out,rfl⟩
 case round=>
  obtain ⟨k,b,hk,hk1,rfl,hgr,hzr,a0,a1,af0,af1,hkb,hbm⟩:=hrel
  by_cases hlt:k<K.length
  ·
   obtain ⟨ad',hAd,hb',hy0,hy1⟩:=(hrv.gr hgr).at hlt
   obtain rfl:ad=ad':=by injection hAd
   clear hAd
   have hkk:=HKK.out k hlt
   have HKB:=Lib.hid hkb;clear hkb
   have HKK1:=Lib.hid hkk;clear hkk
   have HT:RowKit.Hid (x=b):=Lib.hid hbm;clear hbm
   go_wp2
   go_quiet (fail)
   go_wp2
   go_roundw
   case rel=>exact ⟨k+1,b,by omega,by omega,by go_num,(by repeat (first|exact Gr.refl _|assumption|refine Gr.drewN ?_ _|refine Gr.alloc ?_ _|refine Gr.drew ?_|refine Gr.setCell ?_ (by first|(simp;done)|(simp;omega)|omega) _|refine Gr.trans ?_ (by assumption))),by (try simp);omega,by go_simp,by go_simp,by go_simp,by go_simp,HKB.out,HT.out⟩
   case measure=>simp[intOf];omega
  ·
   have hkk:k=K.length:=by omega
   subst hkk
   try rw[List.take_length] at hbm
   clear hbm hkb
   go_wp2_with fail
   refine (radd_any (some ad) c' K _ (by unfold maxLen;omega) ?hrA).mono ?_;(case hrA=>exact hrv.gr hgr);rintro e w2 ⟨rfl,hg2⟩
   have hgA:Gr w1 w2:=gq
   clear hg2
   have x0:=(hgA.cell (p:=⟨w.heap.size,0,none⟩) z0).trans q0
   have x1:=(hgA.cell (p:=⟨w.heap.size,1,none⟩) z0).trans q1
   have y0:=(hgA.frozen (p:=⟨w.heap.size,0,none⟩) z0).trans f0
   have y1:=(hgA.frozen (p:=⟨w.heap.size,1,none⟩) z0).trans f1
   go_wp2
   exact bodyPost_ret (v:= .agg #[.bool (addV K).ok, .int .i64 (addV K).n]) (by simp[results,Tryz.results36,go_sem, *]) rfl ⟨rfl,gq⟩
theorem rof_avg (A:Option Addr) (c:Nat) (l:List Vl) (w:World) (hl:l.length≤1000000) (hr:Rv w A l) (K:List Vl) (hK:kn l=K) (h0:0<K.length) :
  Calls Tryz.prog 36 #[.int .i64 1, .slice A l.length c] w fun e w'=>e= .returned (.agg #[.bool (divV (addV K) (intV (K.length:Nat))).ok, .int .i64 (divV (addV K) (intV (K.length:Nat))).n])∧Gr w w':=by
 have hlen:K.length≤1000000:=by rw[←hK];exact Nat.le_trans (kn_len l) hl
 obtain ⟨hn,hn'⟩:=len_facts h0
 have hlK:(K.length:Int)≤1000000:=by omega
 have hpK:(0:Int)<(K.length:Int):=by omega
 have hkx:knB K[0]=true:=by subst hK;exact kn_all h0
 have hkK:∀i (h:i<K.length),knB K[i]=true:=by subst hK;exact fun i h=>kn_all h
 obtain ⟨x,hx⟩:∃x,K[0]=x:=⟨_,rfl⟩
 have ht1:K.take 1=[x]:=by rw[←hx];exact take_one h0
 rw[hx] at hkx
 have HT1:=Lib.hid ht1;clear ht1
 have HKX:=Lib.hid hkx;clear hkx
 have HKK:=Lib.hid hkK;clear hkK
 go_enter Tryz.func36,Tryz.ntmps36
 go_wp2_with fail
 refine (rknown_vals_any A c l _ hl (hr.gr (Gr.alloc (Gr.refl _) _))).mono ?_;rintro e w1 ⟨A',c',rfl,hrv,hg⟩
 obtain ⟨hc,hf⟩:=hg.cells
 have z0:w.heap.size<w1.heap.size:=by have:=hg.size;simp at this;omega
 have q0:w1.cell? ⟨w.heap.size,0,none⟩=some (.bool false):=by go_simp
 have q1:w1.cell? ⟨w.heap.size,1,none⟩=some (.int .i64 0):=by go_simp
 have f0:w1.frozen? ⟨w.heap.size,0,none⟩=false:=by go_simp
 have f1:w1.frozen? ⟨w.heap.size,1,none⟩=false:=by go_simp
 have hgw:Gr w w1:=gq
 clear hc hf hg
 rw[hK] at hrv ⊢
 have HK:=Lib.hid hK;clear hK
 obtain ⟨ad,hAd,hb,hx0,hx1⟩:=hrv.at h0
 subst hAd
 rw[Nat.zero_mul] at hx0 hx1
 have ha0:ad.add 0=ad:=rfl
 rw[ha0] at hx0 hx1
 rw[hx] at hx0 hx1
 have HX:=Lib.hid hx;clear hx
 go_wp2
 go_loopw [7] (fun i wr=>∃(k:Nat) (b:Vl),k≤K.length∧1≤k∧i= .int .i64 k∧Gr w1 wr∧w1.heap.size<wr.heap.size∧
   wr.cell? ⟨w1.heap.size,0,none⟩=some (.bool b.ok)∧wr.cell? ⟨w1.heap.size,1,none⟩=some (.int .i64 b.n)∧
   wr.frozen? ⟨w1.heap.size,0,none⟩=false∧wr.frozen? ⟨w1.heap.size,1,none⟩=false∧knB b=true∧x=b)
  (fun i _=>K.length-(intOf i).toNat)
 case atStart=>exact ⟨1,x,h0,Nat.le_refl _,rfl,gq,by simp,by go_simp,by go_simp,by go_simp,by go_simp,HKX.out,rfl⟩
 case round=>
  obtain ⟨k,b,hk,hk1,rfl,hgr,hzr,a0,a1,af0,af1,hkb,hbm⟩:=hrel
  by_cases hlt:k<K.length
  ·
   obtain ⟨ad',hAd,hb',hy0,hy1⟩:=(hrv.gr hgr).at hlt
   obtain rfl:ad=ad':=by injection hAd
   clear hAd
   have hkk:=HKK.out k hlt
   have HKB:=Lib.hid hkb;clear hkb
   have HKK1:=Lib.hid hkk;clear hkk
   have HT:RowKit.Hid (x=b):=Lib.hid hbm;clear hbm
   go_wp2
   go_quiet (fail)
   go_wp2
   go_roundw
   case rel=>exact ⟨k+1,b,by omega,by omega,by go_num,(by repeat (first|exact Gr.refl _|assumption|refine Gr.drewN ?_ _|refine Gr.alloc ?_ _|refine Gr.drew ?_|refine Gr.setCell ?_ (by first|(simp;done)|(simp;omega)|omega) _|refine Gr.trans ?_ (by assumption))),by (try simp);omega,by go_simp,by go_simp,by go_simp,by go_simp,HKB.out,HT.out⟩
   case measure=>simp[intOf];omega
  ·
   have hkk:k=K.length:=by omega
   subst hkk
   try rw[List.take_length] at hbm
   clear hbm hkb
   go_wp2_with fail
   refine (radd_any (some ad) c' K _ (by unfold maxLen;omega) ?hrA).mono ?_;(case hrA=>exact hrv.gr hgr);rintro e w2 ⟨rfl,hg2⟩
   have hgA:Gr w1 w2:=gq
   clear hg2
   go_wp2_with fail
   refine (rint_any (K.length:Nat) _).mono ?_;rintro e w3 ⟨rfl,hg3⟩
   have hgB:Gr w1 w3:=Gr.trans hgA hg3
   clear hg3 hgA
   go_wp2_with fail
   refine (rdiv_any (addV K) (intV (K.length:Nat)) _).mono ?_;rintro e w4 ⟨rfl,hg4⟩
   have hgC:Gr w1 w4:=Gr.trans hgB hg4
   clear hg4 hgB
   have x0:=(hgC.cell (p:=⟨w.heap.size,0,none⟩) z0).trans q0
   have x1:=(hgC.cell (p:=⟨w.heap.size,1,none⟩) z0).trans q1
   have y0:=(hgC.frozen (p:=⟨w.heap.size,0,none⟩) z0).trans f0
   have y1:=(hgC.frozen (p:=⟨w.heap.size,1,none⟩) z0).trans f1
   go_wp2
   exact bodyPost_ret (v:= .agg #[.bool (divV (addV K) (intV (K.length:Nat))).ok, .int .i64 (divV (addV K) (intV (K.length:Nat))).n]) (by simp[results,Tryz.results36,go_sem, *]) rfl ⟨rfl,gq⟩
theorem rof_last (A:Option Addr) (c:Nat) (l:List Vl) (w:World) (hl:l.length≤1000000) (hr:Rv w A l) (K:List Vl) (hK:kn l=K) (h0:0<K.length) :
  Calls Tryz.prog 36 #[.int .i64 3, .slice A l.length c] w fun e w'=>e= .returned (.agg #[.bool (K[K.length-1]).ok, .int .i64 (K[K.length-1]).n])∧Gr w w':=by
 obtain ⟨m,hm⟩:∃m,K.length=m+1:=⟨K.length-1,by omega⟩
 have hmlt:m<K.length:=by omega
 have hmK:K[K.length-1]=K[m]:=by congr 1;omega
 rw[hmK];clear hmK
 have hmi:(K.length:Int)-1=(m:Int):=by omega
 have hmI:(m:Int)<(K.length:Int):=by omega
 have hmz:(m:Int)≤1000000:=by rw[←hK] at hm;have:=kn_len l;omega
 have HM:=Lib.hid hm;clear hm
 have hlen:K.length≤1000000:=by rw[←hK];exact Nat.le_trans (kn_len l) hl
 obtain ⟨hn,hn'⟩:=len_facts h0
 have hlK:(K.length:Int)≤1000000:=by omega
 have hpK:(0:Int)<(K.length:Int):=by omega
 have hkx:knB K[0]=true:=by subst hK;exact kn_all h0
 have hkK:∀i (h:i<K.length),knB K[i]=true:=by subst hK;exact fun i h=>kn_all h
 obtain ⟨x,hx⟩:∃x,K[0]=x:=⟨_,rfl⟩
 have ht1:K.take 1=[x]:=by rw[←hx];exact take_one h0
 rw[hx] at hkx
 have HT1:=Lib.hid ht1;clear ht1
 have HKX:=Lib.hid hkx;clear hkx
 have HKK:=Lib.hid hkK;clear hkK
 go_enter Tryz.func36,Tryz.ntmps36
 go_wp2_with fail
 refine (rknown_vals_any A c l _ hl (hr.gr (Gr.alloc (Gr.refl _) _))).mono ?_;rintro e w1 ⟨A',c',rfl,hrv,hg⟩
 obtain ⟨hc,hf⟩:=hg.cells
 have z0:w.heap.size<w1.heap.size:=by have:=hg.size;simp at this;omega
 have q0:w1.cell? ⟨w.heap.size,0,none⟩=some (.bool false):=by go_simp
 have q1:w1.cell? ⟨w.heap.size,1,none⟩=some (.int .i64 0):=by go_simp
 have f0:w1.frozen? ⟨w.heap.size,0,none⟩=false:=by go_simp
 have f1:w1.frozen? ⟨w.heap.size,1,none⟩=false:=by go_simp
 have hgw:Gr w w1:=gq
 clear hc hf hg
 rw[hK] at hrv ⊢
 have HK:=Lib.hid hK;clear hK
 obtain ⟨ad,hAd,hb,hx0,hx1⟩:=hrv.at h0
 subst hAd
 rw[Nat.zero_mul] at hx0 hx1
 have ha0:ad.add 0=ad:=rfl
 rw[ha0] at hx0 hx1
 rw[hx] at hx0 hx1
 have HX:=Lib.hid hx;clear hx
 go_wp2
 go_loopw [7] (fun i wr=>∃(k:Nat) (b:Vl),k≤K.length∧1≤k∧i= .int .i64 k∧Gr w1 wr∧w1.heap.size<wr.heap.size∧
   wr.cell? ⟨w1.heap.size,0,none⟩=some (.bool b.ok)∧wr.cell? ⟨w1.heap.size,1,none⟩=some (.int .i64 b.n)∧
   wr.frozen? ⟨w1.heap.size,0,none⟩=false∧wr.frozen? ⟨w1.heap.size,1,none⟩=false∧knB b=true∧x=b)
  (fun i _=>K.length-(intOf i).toNat)
 case atStart=>exact ⟨1,x,h0,Nat.le_refl _,rfl,gq,by simp,by go_simp,by go_simp,by go_simp,by go_simp,HKX.out,rfl⟩
 case round=>
  obtain ⟨k,b,hk,hk1,rfl,hgr,hzr,a0,a1,af0,af1,hkb,hbm⟩:=hrel
  by_cases hlt:k<K.length
  ·
   obtain ⟨ad',hAd,hb',hy0,hy1⟩:=(hrv.gr hgr).at hlt
   obtain rfl:ad=ad':=by injection hAd
   clear hAd
   have hkk:=HKK.out k hlt
   have HKB:=Lib.hid hkb;clear hkb
   have HKK1:=Lib.hid hkk;clear hkk
   have HT:RowKit.Hid (x=b):=Lib.hid hbm;clear hbm
   go_wp2
   go_quiet (fail)
   go_wp2
   go_roundw
   case rel=>exact ⟨k+1,b,by omega,by omega,by go_num,(by repeat (first|exact Gr.refl _|assumption|refine Gr.drewN ?_ _|refine Gr.alloc ?_ _|refine Gr.drew ?_|refine Gr.setCell ?_ (by first|(simp;done)|(simp;omega)|omega) _|refine Gr.trans ?_ (by assumption))),by (try simp);omega,by go_simp,by go_simp,by go_simp,by go_simp,HKB.out,HT.out⟩
   case measure=>simp[intOf];omega
  ·
   have hkk:k=K.length:=by omega
   subst hkk
   try rw[List.take_length] at hbm
   clear hbm hkb
   obtain ⟨ad',hAd,hb',hy0,hy1⟩:=(hrv.gr hgr).at hmlt
   obtain rfl:ad=ad':=by injection hAd
   clear hAd
   have x0:=(hgr.cell (p:=⟨w.heap.size,0,none⟩) z0).trans q0
   have x1:=(hgr.cell (p:=⟨w.heap.size,1,none⟩) z0).trans q1
   have y0:=(hgr.frozen (p:=⟨w.heap.size,0,none⟩) z0).trans f0
   have y1:=(hgr.frozen (p:=⟨w.heap.size,1,none⟩) z0).trans f1
   go_wp2
   exact bodyPost_ret (v:= .agg #[.bool K[m].ok, .int .i64 K[m].n]) (by simp[results,Tryz.results36,go_sem, *]) rfl ⟨rfl,gq⟩
theorem ragg_of_any (kind:Int) (A:Option Addr) (c:Nat) (l:List Vl) (w:World) (hl:l.length≤1000000) (hr:Rv w A l) :
  Calls Tryz.prog 36 #[.int .i64 kind, .slice A l.length c] w fun e w'=>e= .returned (.agg #[.bool (aggV kind l).ok, .int .i64 (aggV kind l).n])∧Gr w w':=by
 by_cases h0:0<(kn l).length
 ·
  by_cases k2:kind=2
  ·
   subst k2
   have hv:aggV 2 l=addV (kn l):=by simp[aggV,ofK,h0]
   rw[hv];exact rof_sum A c l w hl hr _ rfl h0
  by_cases k1:kind=1
  ·
   subst k1
   have hv:aggV 1 l=divV (addV (kn l)) (intV ((kn l).length:Nat)):=by simp[aggV,ofK,h0]
   rw[hv];exact rof_avg A c l w hl hr _ rfl h0
  by_cases k3:kind=3
  ·
   subst k3
   have hv:aggV 3 l=(kn l)[(kn l).length-1]:=by simp[aggV,ofK,h0]
   rw[hv];exact rof_last A c l w hl hr _ rfl h0
  by_cases k4:kind=4
  ·
   subst k4
   have hv:aggV 4 l=maxV (kn l)[0] (kn l):=by simp[aggV,ofK,h0]
   rw[hv];exact rof_max A c l w hl hr _ rfl h0
  by_cases k5:kind=5
  ·
   subst k5
   have hv:aggV 5 l=minV (kn l)[0] (kn l):=by simp[aggV,ofK,h0]
   rw[hv];exact rof_min A c l w hl hr _ rfl h0
  have hv:aggV kind l=⟨false,0⟩:=by simp[aggV,ofK,h0,k1,k2,k3,k4,k5]
  rw[hv]
  by_cases hlo:kind<1
  ·
   exact rof_low kind hlo A c l w hl hr _ rfl h0
  ·
   exact rof_high kind (by omega) A c l w hl hr _ rfl h0
 ·
  have hv:aggV kind l=⟨false,0⟩:=by simp[aggV,ofK,h0]
  rw[hv];exact rof_nil kind A c l w hl hr (by omega)
theorem rsqrt_any (a:Vl) (w:World) :
  Calls Tryz.prog 75 #[.agg #[.bool a.ok, .int .i64 a.n]] w fun e w'=>e= .returned (.agg #[.bool (sqrtV a).ok, .int .i64 (sqrtV a).n])∧Gr w w':=by
 cases ha:knB a
 ·
  have hv:sqrtV a=⟨false,0⟩:=by simp[sqrtV,ha]
  rw[hv];clear hv
  go_enter Tryz.func75,Tryz.ntmps75
  go_wp2_with fail
  refine (rkn_any a _).mono ?_;rintro e w1 ⟨rfl,hg⟩;obtain ⟨hc,hf⟩:=hg.cells;have hz:=hg.size;(try simp at hz);have z0:w.heap.size<w1.heap.size:=(by omega);have z1:w.heap.size+1<w1.heap.size:=(by omega)
  go_wp2
  have q0:w1.cell? ⟨w.heap.size+1,0,none⟩=some (.bool false):=by go_simp
  have q1:w1.cell? ⟨w.heap.size+1,1,none⟩=some (.int .i64 0):=by go_simp
  exact bodyPost_ret (v:= .agg #[.bool false, .int .i64 0]) (by simp[results,Tryz.results75,go_sem, *]) rfl ⟨rfl,gq⟩
 by_cases h0:a.n<0
 ·
  have hv:sqrtV a=⟨false,0⟩:=by
   have:¬0≤a.n:=by omega
   simp[sqrtV,ha,this]
  rw[hv];clear hv
  go_enter Tryz.func75,Tryz.ntmps75
  go_wp2_with fail
  refine (rkn_any a _).mono ?_;rintro e w1 ⟨rfl,hg⟩;obtain ⟨hc,hf⟩:=hg.cells;have hz:=hg.size;(try simp at hz);have z0:w.heap.size<w1.heap.size:=(by omega);have z1:w.heap.size+1<w1.heap.size:=(by omega)
  go_wp2
  have q0:w1.cell? ⟨w.heap.size+1,0,none⟩=some (.bool false):=by go_simp
  have q1:w1.cell? ⟨w.heap.size+1,1,none⟩=some (.int .i64 0):=by go_simp
  exact bodyPost_ret (v:= .agg #[.bool false, .int .i64 0]) (by simp[results,Tryz.results75,go_sem, *]) rfl ⟨rfl,gq⟩
 have h0':0≤a.n:=by omega
 have a2:=knB_hi ha
 obtain ⟨ok,m⟩:=a
 simp only at h0' a2 h0
 obtain ⟨N0,rfl⟩:∃N0:Nat,m=(N0:Int):=⟨m.toNat,by omega⟩
 have hv:sqrtV ⟨ok,(N0:Int)⟩=ofV (rtN (N0*1000000)):=by
  unfold sqrtV
  rw[ha,Int.toNat_natCast,decide_eq_true (Int.natCast_nonneg N0),Bool.and_self,cond_true]
 rw[hv];clear hv
 obtain ⟨N,hN⟩:∃N,N=N0*1000000:=⟨_,rfl⟩
 have hN84:N<2^84:=by
  have:(2:Nat)^84=19342813113834066795298816:=by decide
  omega
 have M0':=times_any N0 1000000 (by omega) (by omega)
 rw[←hN] at M0' ⊢
 obtain ⟨H,hH⟩:∃H,N/18446744073709551616=H:=⟨_,rfl⟩
 obtain ⟨L,hL⟩:∃L,N%18446744073709551616=L:=⟨_,rfl⟩
 rw[hH,hL] at M0'
 have M:=Lib.hid M0'
 have i1:(H:Int)≤18446744073709551615:=by omega
 have i2:(L:Int)≤18446744073709551615:=by omega
 have i3:(N0:Int)≤4611686018427387904:=by omega
 have HN:=Lib.hid hN84
 have HH:=Lib.hid (And.intro hH hL)
 clear M0' hN hN84 a2 h0 h0' hH hL
 go_enter Tryz.func75,Tryz.ntmps75
 go_wp2_with fail
 refine (rkn_any ⟨ok,(N0:Int)⟩ _).mono ?_;rintro e w1 ⟨rfl,hg⟩;obtain ⟨hc,hf⟩:=hg.cells;have hz:=hg.size;(try simp at hz);have z0:w.heap.size<w1.heap.size:=(by omega);have z1:w.heap.size+1<w1.heap.size:=(by omega)
 go_wp2_with fail
 refine (M.out _).mono ?_;rintro e w1' ⟨rfl,rfl⟩
 clear M
 go_wp2
 have q0:w1.cell? ⟨w.heap.size+1,0,none⟩=some (.bool false):=by go_simp
 have q1:w1.cell? ⟨w.heap.size+1,1,none⟩=some (.int .i64 0):=by go_simp
 have f0:w1.frozen? ⟨w.heap.size+1,0,none⟩=false:=by go_simp
 have f1:w1.frozen? ⟨w.heap.size+1,1,none⟩=false:=by go_simp
 have hgw:Gr w w1:=gq
 clear hc hf hg
 go_loop [5,6] (fun tn ti=>∃(k n:Nat) (i:Int),tn= .int .u64 n∧ti= .int .i64 i∧Hid (i=(k:Int)-1)∧k≤42∧Hid (Rt N k n)) (fun _ ti=>(intOf ti+1).toNat)
 case atStart=>exact ⟨42,0,41,rfl,rfl,rfl,Nat.le_refl _,Rt.start HN.out⟩
 case round=>
  obtain ⟨k,n,i,rfl,rfl,hi,hk,hrt⟩:=hrel
  rcases Nat.eq_zero_or_pos k with h0|h0
  ·
   subst h0
   obtain rfl:i= -1:=by have:=hi.out;omega
   clear hi
   have hn:=hrt.out.hlt
   have he:=hrt.out.end_
   have i4:(n:Int)≤4398046511104:=by omega
   have O:=Lib.hid (rof_any (n:Int))
   have HE:=Lib.hid he
   clear hrt hn he
   go_wp2_with fail
   refine (O.out _).mono ?_;rintro e w2 ⟨rfl,hg2⟩
   have x0:w2.cell? ⟨w.heap.size+1,0,none⟩=some (.bool false):=(hg2.cell (p:=⟨w.heap.size+1,0,none⟩) z1).trans q0
   have x1:w2.cell? ⟨w.heap.size+1,1,none⟩=some (.int .i64 0):=(hg2.cell (p:=⟨w.heap.size+1,1,none⟩) z1).trans q1
   have y0:w2.frozen? ⟨w.heap.size+1,0,none⟩=false:=(hg2.frozen (p:=⟨w.heap.size+1,0,none⟩) z1).trans f0
   have y1:w2.frozen? ⟨w.heap.size+1,1,none⟩=false:=(hg2.frozen (p:=⟨w.heap.size+1,1,none⟩) z1).trans f1
   go_wp2
   exact bodyPost_ret (v:= .agg #[.bool (ofV (n:Int)).ok, .int .i64 (ofV (n:Int)).n]) (by simp[results,Tryz.results75,go_sem, *]) rfl ⟨by rw[←HE.out],(by repeat (first|exact hgw|refine Gr.setCell ?_ (by simp) _|refine Gr.trans ?_ (by assumption)))⟩
  ·
   obtain ⟨j,rfl⟩:∃j,k=j+1:=⟨k-1,by omega⟩
   obtain rfl:i=(j:Int):=by have:=hi.out;omega
   obtain ⟨b,hbj⟩:∃b,b=2^j:=⟨_,rfl⟩
   have j41:(j:Int)≤41:=by omega
   have hbl:b≤4398046511104:=by
    rw[hbj];exact Nat.le_trans (Nat.pow_le_pow_right (by omega) (show j≤42 by omega)) (by decide)
   have eS0:(1:Int)*2^j=(b:Int):=by rw[hbj,Int.natCast_pow,Int.one_mul];rfl
   have eS1:(2:Int)^j=(b:Int):=by rw[hbj,Int.natCast_pow];rfl
   have eS:IntKind.u64.wrap (b:Int)=(b:Int):=by rw[dv_wrap,Nat.mod_eq_of_lt (by omega)]
   have eO:bits .or .u64 (n:Int) (b:Int)=((n+b:Nat):Int):=by
    have:=or_pow (k:=j) hrt.out.hd (by have:=hrt.out.hlt;rw[←hbj];omega)
    rw[←hbj] at this;exact this
   obtain ⟨x,hx⟩:∃x,x=n+b:=⟨_,rfl⟩
   rw[←hx] at eO
   have hxl:x≤8796093022208:=by have:=hrt.out.hlt;omega
   have M2':=times_any x x (by omega) (by omega)
   have hD:=dbl_le (X:=x*x) HH.out.1 HH.out.2
   have hXX:x*x≤8796093022208*8796093022208:=Nat.mul_le_mul hxl hxl
   obtain ⟨h2,hh2⟩:∃h2,x*x/18446744073709551616=h2:=⟨_,rfl⟩
   obtain ⟨l2,hl2⟩:∃l2,x*x%18446744073709551616=l2:=⟨_,rfl⟩
   rw[hh2,hl2] at M2' hD
   have M2:=Lib.hid M2'
   have i5:(h2:Int)≤18446744073709551615:=by omega
   have i6:(l2:Int)≤18446744073709551615:=by omega
   have HD:=Lib.hid hD
   have HX:=Lib.hid (show x=n+2^j by omega)
   clear M2' hD hXX hh2 hl2 hxl hbl hx
   clear hi hbj h0
   by_cases c1:(h2:Int)<(H:Int)
   ·
    have hy:(n+2^j)*(n+2^j)≤N:=by rw[←HX.out];exact HD.out.2 (Or.inl (by omega))
    have RT:=Lib.hid (hrt.out.yes (by
     have h1:2^j*2^j≤(n+2^j)*(n+2^j):=Nat.mul_le_mul (by omega) (by omega)
     rcases Nat.lt_or_ge j 42 with hj|hj
     ·
      exact hj
     ·
      have h3:2^84≤2^j*2^j:=by rw[←Nat.pow_add];exact Nat.pow_le_pow_right (by omega) (by omega)
      have:=HN.out;omega) hy)
    rw[←HX.out] at RT
    clear hy
    go_wp2_with fail
    refine (M2.out _).mono ?_;rintro e w1' ⟨rfl,rfl⟩
    go_wp2
    go_round
    case rel=>exact ⟨j,x,(j:Int)-1,rfl,rfl,rfl,by omega,RT.out⟩
    case measure=>first|(simp[intOf];done)|(simp[intOf];omega)
   by_cases c2:h2=H
   ·
    by_cases c3:(l2:Int)≤(L:Int)
    ·
     have hy:(n+2^j)*(n+2^j)≤N:=by rw[←HX.out];exact HD.out.2 (Or.inr ⟨c2,by omega⟩)
     have RT:=Lib.hid (hrt.out.yes (by
      have h1:2^j*2^j≤(n+2^j)*(n+2^j):=Nat.mul_le_mul (by omega) (by omega)
      rcases Nat.lt_or_ge j 42 with hj|hj
      ·
       exact hj
      ·
       have h3:2^84≤2^j*2^j:=by rw[←Nat.pow_add];exact Nat.pow_le_pow_right (by omega) (by omega)
       have:=HN.out;omega) hy)
     rw[←HX.out] at RT
     clear hy
     have c2':((h2:Int)==(H:Int))=true:=by simp[c2]
     have c2n:(h2==H)=true:=by simp[c2]
     clear c2
     go_wp2_with fail
     refine (M2.out _).mono ?_;rintro e w1' ⟨rfl,rfl⟩
     go_wp2
     go_round
     case rel=>exact ⟨j,x,(j:Int)-1,rfl,rfl,rfl,by omega,RT.out⟩
     case measure=>first|(simp[intOf];done)|(simp[intOf];omega)
    ·
     have hy:¬(n+2^j)*(n+2^j)≤N:=by rw[←HX.out];intro h;have:=HD.out.1 h;omega
     have RT:=Lib.hid (hrt.out.no hy)
     clear hy
     have c2':((h2:Int)==(H:Int))=true:=by simp[c2]
     have c2n:(h2==H)=true:=by simp[c2]
     clear c2
     go_wp2_with fail
     refine (M2.out _).mono ?_;rintro e w1' ⟨rfl,rfl⟩
     go_wp2
     go_round
     case rel=>exact ⟨j,n,(j:Int)-1,rfl,rfl,rfl,by omega,RT.out⟩
     case measure=>first|(simp[intOf];done)|(simp[intOf];omega)
   ·
    have hy:¬(n+2^j)*(n+2^j)≤N:=by rw[←HX.out];intro h;have:=HD.out.1 h;omega
    have RT:=Lib.hid (hrt.out.no hy)
    clear hy
    have c2':((h2:Int)==(H:Int))=false:=by simp;omega
    have c2n:(h2==H)=false:=by simp[c2]
    clear c2
    go_wp2_with fail
    refine (M2.out _).mono ?_;rintro e w1' ⟨rfl,rfl⟩
    go_wp2
    go_round
    case rel=>exact ⟨j,n,(j:Int)-1,rfl,rfl,rfl,by omega,RT.out⟩
    case measure=>first|(simp[intOf];done)|(simp[intOf];omega)
end Go.Proofs.YtnphdacibageiaaGreat
