import Derived.Test.YtoncapkmaeghfaaGreatRunFxWalk
import Derived.Test.YtoncapkmaeghfaaGreatRunFxMul
import Derived.BigQuiet
import Derived.Test.YtoncapkmaeghfaaGreatRunWhFit
import Derived.Test.YtoncapkmaeghfaaGreatRunVfFs
set_option linter.all false
set_option maxRecDepth 1000000
set_option maxHeartbeats 12800000
namespace Go.Proofs.YtoncapkmaeghfaaGreat
open Go.RowKit
theorem lessB_kn {a b:Vl} (ha:knB a=true) (hb:knB b=true):lessB a b=decide (a.n<b.n):=by simp[lessB,ha,hb]
theorem kn_all {l:List Vl} {i:Nat} (h:i<(kn l).length):knB (kn l)[i]=true:=(List.mem_filter.1 (List.getElem_mem h)).2
theorem max_one (x:Vl):maxV x [x]=x:=by simp[maxV,lessB]
theorem min_one (x:Vl):minV x [x]=x:=by simp[minV,lessB]
theorem take_one {K:List Vl} (h0:0<K.length):K.take 1=[K[0]]:=by
 cases K with
 | nil=>simp at h0
 | cons a r=>rfl
theorem rof_nil (kind:Int) (A:Option Addr) (c:Nat) (l:List Vl) (w:World) (hl:l.length≤1000000) (hr:Rv w A l) (h0:(kn l).length=0) :
  Calls Tryz.prog 111 #[.int .i64 kind, .slice A l.length c] w fun e w'=>e= .returned (.agg #[.bool (⟨false,0⟩:Vl).ok, .int .i64 (⟨false,0⟩:Vl).n])∧Gr w w':=by
 obtain ⟨K,hK⟩:∃K,K=kn l:=⟨_,rfl⟩
 have hn:(((kn l).length:Int)==0)=true:=by simp[h0]
 have hn':((kn l).length==0)=true:=by simp[h0]
 have H0:=Lib.hid h0;clear h0 hK
 go_enter Tryz.func111,Tryz.ntmps111
 go_wp2_with fail
 refine (rknown_vals_any A c l _ hl (hr.gr (Gr.alloc (Gr.refl _) _))).mono ?_;rintro e w1 ⟨A',c',rfl,hrv,hg⟩
 obtain ⟨hc,hf⟩:=hg.cells
 have z0:w.heap.size<w1.heap.size:=by have:=hg.size;simp at this;omega
 have q0:w1.cell? ⟨w.heap.size,0,none⟩=some (.bool false):=by go_simp
 have q1:w1.cell? ⟨w.heap.size,1,none⟩=some (.int .i64 0):=by go_simp
 have f0:w1.frozen? ⟨w.heap.size,0,none⟩=false:=by go_simp
 have f1:w1.frozen? ⟨w.heap.size,1,none⟩=false:=by go_simp
 have hgw:Gr w w1:=gq
 clear hc hf hg
 go_wp2
 exact bodyPost_ret (v:= .agg #[.bool false, .int .i64 0]) (by simp[results,Tryz.results111,go_sem, *]) rfl ⟨rfl,gq⟩
theorem rof_low (kind:Int) (e1:kind<1) (A:Option Addr) (c:Nat) (l:List Vl) (w:World) (hl:l.length≤1000000) (hr:Rv w A l) (K:List Vl) (hK:kn l=K) (h0:0<K.length) :
  Calls Tryz.prog 111 #[.int .i64 kind, .slice A l.length c] w fun e w'=>e= .returned (.agg #[.bool (⟨false,0⟩:Vl).ok, .int .i64 (⟨false,0⟩:Vl).n])∧Gr w w':=by
 have hlen:K.length≤1000000:=by rw[←hK];exact Nat.le_trans (kn_len l) hl
 obtain ⟨hn,hn'⟩:=len_facts h0
 have hlK:(K.length:Int)≤1000000:=by omega
 have hpK:(0:Int)<(K.length:Int):=by omega
 go_enter Tryz.func111,Tryz.ntmps111
 go_wp2_with fail
 refine (rknown_vals_any A c l _ hl (hr.gr (Gr.alloc (Gr.refl _) _))).mono ?_;rintro e w1 ⟨A',c',rfl,hrv,hg⟩
 obtain ⟨hc,hf⟩:=hg.cells
 have z0:w.heap.size<w1.heap.size:=by have:=hg.size;simp at this;omega
 have q0:w1.cell? ⟨w.heap.size,0,none⟩=some (.bool false):=by go_simp
 have q1:w1.cell? ⟨w.heap.size,1,none⟩=some (.int .i64 0):=by go_simp
 have f0:w1.frozen? ⟨w.heap.size,0,none⟩=false:=by go_simp
 have f1:w1.frozen? ⟨w.heap.size,1,none⟩=false:=by go_simp
 have hgw:Gr w w1:=gq
 clear hc hf hg
 rw[hK] at hrv ⊢
 go_wp2
 exact bodyPost_ret (v:= .agg #[.bool false, .int .i64 0]) (by simp[results,Tryz.results111,go_sem, *]) rfl ⟨rfl,gq⟩
theorem rof_high (kind:Int) (e1:5<kind) (A:Option Addr) (c:Nat) (l:List Vl) (w:World) (hl:l.length≤1000000) (hr:Rv w A l) (K:List Vl) (hK:kn l=K) (h0:0<K.length) :
  Calls Tryz.prog 111 #[.int .i64 kind, .slice A l.length c] w fun e w'=>e= .returned (.agg #[.bool (⟨false,0⟩:Vl).ok, .int .i64 (⟨false,0⟩:Vl).n])∧Gr w w':=by
 have hlen:K.length≤1000000:=by rw[←hK];exact Nat.le_trans (kn_len l) hl
 obtain ⟨hn,hn'⟩:=len_facts h0
 have hlK:(K.length:Int)≤1000000:=by omega
 have hpK:(0:Int)<(K.length:Int):=by omega
 have e2:¬kind<1:=by omega
 go_enter Tryz.func111,Tryz.ntmps111
 go_wp2_with fail
 refine (rknown_vals_any A c l _ hl (hr.gr (Gr.alloc (Gr.refl _) _))).mono ?_;rintro e w1 ⟨A',c',rfl,hrv,hg⟩
 obtain ⟨hc,hf⟩:=hg.cells
 have z0:w.heap.size<w1.heap.size:=by have:=hg.size;simp at this;omega
 have q0:w1.cell? ⟨w.heap.size,0,none⟩=some (.bool false):=by go_simp
 have q1:w1.cell? ⟨w.heap.size,1,none⟩=some (.int .i64 0):=by go_simp
 have f0:w1.frozen? ⟨w.heap.size,0,none⟩=false:=by go_simp
 have f1:w1.frozen? ⟨w.heap.size,1,none⟩=false:=by go_simp
 have hgw:Gr w w1:=gq
 clear hc hf hg
 rw[hK] at hrv ⊢
 go_wp2
 exact bodyPost_ret (v:= .agg #[.bool false, .int .i64 0]) (by simp[results,Tryz.results111,go_sem, *]) rfl ⟨rfl,gq⟩
theorem rof_max (A:Option Addr) (c:Nat) (l:List Vl) (w:World) (hl:l.length≤1000000) (hr:Rv w A l) (K:List Vl) (hK:kn l=K) (h0:0<K.length) :
  Calls Tryz.prog 111 #[.int .i64 4, .slice A l.length c] w fun e w'=>e= .returned (.agg #[.bool (maxV K[0] K).ok, .int .i64 (maxV K[0] K).n])∧Gr w w':=by
 have hlen:K.length≤1000000:=by rw[←hK];exact Nat.le_trans (kn_len l) hl
 obtain ⟨hn,hn'⟩:=len_facts h0
 have hlK:(K.length:Int)≤1000000:=by omega
 have hpK:(0:Int)<(K.length:Int):=by omega
 have hkx:knB K[0]=true:=by subst hK;exact kn_all h0
 have hkK:∀i (h:i<K.length),knB K[i]=true:=by subst hK;exact fun i h=>kn_all h
 obtain ⟨x,hx⟩:∃x,K[0]=x:=⟨_,rfl⟩
 have ht1:K.take 1=[x]:=by rw[←hx];exact take_one h0
 rw[hx] at hkx
 rw[hx]
 have HT1:=Lib.hid ht1;clear ht1
 have HKX:=Lib.hid hkx;clear hkx
 have HKK:=Lib.hid hkK;clear hkK
 go_enter Tryz.func111,Tryz.ntmps111
 go_wp2_with fail
 refine (rknown_vals_any A c l _ hl (hr.gr (Gr.alloc (Gr.refl _) _))).mono ?_;rintro e w1 ⟨A',c',rfl,hrv,hg⟩
 obtain ⟨hc,hf⟩:=hg.cells
 have z0:w.heap.size<w1.heap.size:=by have:=hg.size;simp at this;omega
 have q0:w1.cell? ⟨w.heap.size,0,none⟩=some (.bool false):=by go_simp
 have q1:w1.cell? ⟨w.heap.size,1,none⟩=some (.int .i64 0):=by go_simp
 have f0:w1.frozen? ⟨w.heap.size,0,none⟩=false:=by go_simp
 have f1:w1.frozen? ⟨w.heap.size,1,none⟩=false:=by go_simp
 have hgw:Gr w w1:=gq
 clear hc hf hg
 rw[hK] at hrv ⊢
 have HK:=Lib.hid hK;clear hK
 obtain ⟨ad,hAd,hb,hx0,hx1⟩:=hrv.at h0
 subst hAd
 rw[Nat.zero_mul] at hx0 hx1
 have ha0:ad.add 0=ad:=rfl
 rw[ha0] at hx0 hx1
 rw[hx] at hx0 hx1
 have HX:=Lib.hid hx;clear hx
 go_wp2
 go_loopw [7] (fun i wr=>∃(k:Nat) (b:Vl),k≤K.length∧1≤k∧i= .int .i64 k∧Gr w1 wr∧w1.heap.size<wr.heap.size∧
   wr.cell? ⟨w1.heap.size,0,none⟩=some (.bool b.ok)∧wr.cell? ⟨w1.heap.size,1,none⟩=some (.int .i64 b.n)∧
   wr.frozen? ⟨w1.heap.size,0,none⟩=false∧wr.frozen? ⟨w1.heap.size,1,none⟩=false∧knB b=true∧maxV x (K.take k)=b)
  (fun i _=>K.length-(intOf i).toNat)
 case atStart=>exact ⟨1,x,h0,Nat.le_refl _,rfl,gq,by simp,by go_simp,by go_simp,by go_simp,by go_simp,HKX.out,(by rw[HT1.out];exact max_one x)⟩
 case round=>
  obtain ⟨k,b,hk,hk1,rfl,hgr,hzr,a0,a1,af0,af1,hkb,hbm⟩:=hrel
  by_cases hlt:k<K.length
  ·
   obtain ⟨ad',hAd,hb',hy0,hy1⟩:=(hrv.gr hgr).at hlt
   obtain rfl:ad=ad':=by injection hAd
   clear hAd
   have hkk:=HKK.out k hlt
   have Ht:=max_take (x:=x) hlt
   rw[hbm,lessB_kn hkb hkk] at Ht
   clear hbm
   cases hd:decide (b.n<K[k].n)
   ·
    rw[hd] at Ht
    have HKB:=Lib.hid hkb;clear hkb
    have HKK1:=Lib.hid hkk;clear hkk
    have HT:=Lib.hid Ht;clear Ht
    go_wp2
    go_quiet (fail)
    go_wp2
    go_roundw
    case rel=>exact ⟨k+1,b,by omega,by omega,by go_num,(by repeat (first|exact Gr.refl _|assumption|refine Gr.drewN ?_ _|refine Gr.alloc ?_ _|refine Gr.drew ?_|refine Gr.setCell ?_ (by first|(simp;done)|(simp;omega)|omega) _|refine Gr.trans ?_ (by assumption))),by (try simp);omega,by go_simp,by go_simp,by go_simp,by go_simp,HKB.out,HT.out⟩
    case measure=>simp[intOf];omega
   ·
    rw[hd] at Ht
    have HKB:=Lib.hid hkb;clear hkb
    have HKK1:=Lib.hid hkk;clear hkk
    have HT:=Lib.hid Ht;clear Ht
    go_wp2
    go_quiet (fail)
    go_wp2
    go_roundw
    case rel=>exact ⟨k+1,K[k],by omega,by omega,by go_num,(by repeat (first|exact Gr.refl _|assumption|refine Gr.drewN ?_ _|refine Gr.alloc ?_ _|refine Gr.drew ?_|refine Gr.setCell ?_ (by first|(simp;done)|(simp;omega)|omega) _|refine Gr.trans ?_ (by assumption))),by (try simp);omega,by go_simp,by go_simp,by go_simp,by go_simp,HKK1.out,HT.out⟩
    case measure=>simp[intOf];omega
  ·
   have hkk:k=K.length:=by omega
   subst hkk
   try rw[List.take_length] at hbm
   subst hbm
   have x0:=(hgr.cell (p:=⟨w.heap.size,0,none⟩) z0).trans q0
   have x1:=(hgr.cell (p:=⟨w.heap.size,1,none⟩) z0).trans q1
   have y0:=(hgr.frozen (p:=⟨w.heap.size,0,none⟩) z0).trans f0
   have y1:=(hgr.frozen (p:=⟨w.heap.size,1,none⟩) z0).trans f1
   go_wp2
   exact bodyPost_ret (v:= .agg #[.bool (maxV x K).ok, .int .i64 (maxV x K).n]) (by simp[results,Tryz.results111,go_sem, *]) rfl ⟨rfl,gq⟩
theorem rof_min (A:Option Addr) (c:Nat) (l:List Vl) (w:World) (hl:l.length≤1000000) (hr:Rv w A l) (K:List Vl) (hK:kn l=K) (h0:0<K.length) :
  Calls Tryz.prog 111 #[.int .i64 5, .slice A l.length c] w fun e w'=>e= .returned (.agg #[.bool (minV K[0] K).ok, .int .i64 (minV K[0] K).n])∧Gr w w':=by
 have hlen:K.length≤1000000:=by rw[←hK];exact Nat.le_trans (kn_len l) hl
 obtain ⟨hn,hn'⟩:=len_facts h0
 have hlK:(K.length:Int)≤1000000:=by omega
 have hpK:(0:Int)<(K.length:Int):=by omega
 have hkx:knB K[0]=true:=by subst hK;exact kn_all h0
 have hkK:∀i (h:i<K.length),knB K[i]=true:=by subst hK;exact fun i h=>kn_all h
 obtain ⟨x,hx⟩:∃x,K[0]=x:=⟨_,rfl⟩
 have ht1:K.take 1=[x]:=by rw[←hx];exact take_one h0
 rw[hx] at hkx
 rw[hx]
 have HT1:=Lib.hid ht1;clear ht1
 have HKX:=Lib.hid hkx;clear hkx
 have HKK:=Lib.hid hkK;clear hkK
 go_enter Tryz.func111,Tryz.ntmps111
 go_wp2_with fail
 refine (rknown_vals_any A c l _ hl (hr.gr (Gr.alloc (Gr.refl _) _))).mono ?_;rintro e w1 ⟨A',c',rfl,hrv,hg⟩
 obtain ⟨hc,hf⟩:=hg.cells
 have z0:w.heap.size<w1.heap.size:=by have:=hg.size;simp at this;omega
 have q0:w1.cell? ⟨w.heap.size,0,none⟩=some (.bool false):=by go_simp
 have q1:w1.cell? ⟨w.heap.size,1,none⟩=some (.int .i64 0):=by go_simp
 have f0:w1.frozen? ⟨w.heap.size,0,none⟩=false:=by go_simp
 have f1:w1.frozen? ⟨w.heap.size,1,none⟩=false:=by go_simp
 have hgw:Gr w w1:=gq
 clear hc hf hg
 rw[hK] at hrv ⊢
 have HK:=Lib.hid hK;clear hK
 obtain ⟨ad,hAd,hb,hx0,hx1⟩:=hrv.at h0
 subst hAd
 rw[Nat.zero_mul] at hx0 hx1
 have ha0:ad.add 0=ad:=rfl
 rw[ha0] at hx0 hx1
 rw[hx] at hx0 hx1
 have HX:=Lib.hid hx;clear hx
 go_wp2
 go_loopw [7] (fun i wr=>∃(k:Nat) (b:Vl),k≤K.length∧1≤k∧i= .int .i64 k∧Gr w1 wr∧w1.heap.size<wr.heap.size∧
   wr.cell? ⟨w1.heap.size,0,none⟩=some (.bool b.ok)∧wr.cell? ⟨w1.heap.size,1,none⟩=some (.int .i64 b.n)∧
   wr.frozen? ⟨w1.heap.size,0,none⟩=false∧wr.frozen? ⟨w1.heap.size,1,none⟩=false∧knB b=true∧minV x (K.take k)=b)
  (fun i _=>K.length-(intOf i).toNat)
 case atStart=>exact ⟨1,x,h0,Nat.le_refl _,rfl,gq,by simp,by go_simp,by go_simp,by go_simp,by go_simp,HKX.out,(by rw[HT1.out];exact min_one x)⟩
 case round=>
  obtain ⟨k,b,hk,hk1,rfl,hgr,hzr,a0,a1,af0,af1,hkb,hbm⟩:=hrel
  by_cases hlt:k<K.length
  ·
   obtain ⟨ad',hAd,hb',hy0,hy1⟩:=(hrv.gr hgr).at hlt
   obtain rfl:ad=ad':=by injection hAd
   clear hAd
   have hkk:=HKK.out k hlt
   have Ht:=min_take (x:=x) hlt
   rw[hbm,lessB_kn hkk hkb] at Ht
   clear hbm
   cases hd:decide (K[k].n<b.n)
   ·
    rw[hd] at Ht
    have HKB:=Lib.hid hkb;clear hkb
    have HKK1:=Lib.hid hkk;clear hkk
    have HT:=Lib.hid Ht;clear Ht
    go_wp2
    go_quiet (fail)
    go_wp2
    go_roundw
    case rel=>exact ⟨k+1,b,by omega,by omega,by go_num,(by repeat (first|exact Gr.refl _|assumption|refine Gr.drewN ?_ _|refine Gr.alloc ?_ _|refine Gr.drew ?_|refine Gr.setCell ?_ (by first|(simp;done)|(simp;omega)|omega) _|refine Gr.trans ?_ (by assumption))),by (try simp);omega,by go_simp,by go_simp,by go_simp,by go_simp,HKB.out,HT.out⟩
    case measure=>simp[intOf];omega
   ·
    rw[hd] at Ht
    have HKB:=Lib.hid hkb;clear hkb
    have HKK1:=Lib.hid hkk;clear hkk
    have HT:=Lib.hid Ht;clear Ht
    go_wp2
    go_quiet (fail)
    go_wp2
    go_roundw
    case rel=>exact ⟨k+1,K[k],by omega,by omega,by go_num,(by repeat (first|exact Gr.refl _|assumption|refine Gr.drewN ?_ _|refine Gr.alloc ?_ _|refine Gr.drew ?_|refine Gr.setCell ?_ (by first|(simp;done)|(simp;omega)|omega) _|refine Gr.trans ?_ (by assumption))),by (try simp);omega,by go_simp,by go_simp,by go_simp,by go_simp,HKK1.out,HT.out⟩
    case measure=>simp[intOf];omega
  ·
   have hkk:k=K.length:=by omega
   subst hkk
   try rw[List.take_length] at hbm
   subst hbm
   have x0:=(hgr.cell (p:=⟨w.heap.size,0,none⟩) z0).trans q0
   have x1:=(hgr.cell (p:=⟨w.heap.size,1,none⟩) z0).trans q1
   have y0:=(hgr.frozen (p:=⟨w.heap.size,0,none⟩) z0).trans f0
   have y1:=(hgr.frozen (p:=⟨w.heap.size,1,none⟩) z0).trans f1
   go_wp2
   exact bodyPost_ret (v:= .agg #[.bool (minV x K).ok, .int .i64 (minV x K).n]) (by simp[results,Tryz.results111,go_sem, *]) rfl ⟨rfl,gq⟩
theorem rof_sum (A:Option Addr) (c:Nat) (l:List Vl) (w:World) (hl:l.length≤1000000) (hr:Rv w A l) (K:List Vl) (hK:kn l=K) (h0:0<K.length) :
  Calls Tryz.prog 111 #[.int .i64 2, .slice A l.length c] w fun e w'=>e= .returned (.agg #[.bool (addV K).ok, .int .i64 (addV K).n])∧Gr w w':=by
 have hlen:K.length≤1000000:=by rw[←hK];exact Nat.le_trans (kn_len l) hl
 obtain ⟨hn,hn'⟩:=len_facts h0
 have hlK:(K.length:Int)≤1000000:=by omega
 have hpK:(0:Int)<(K.length:Int):=by omega
 have hkx:knB K[0]=true:=by subst hK;exact kn_all h0
 have hkK:∀i (h:i<K.length),knB K[i]=true:=by subst hK;exact fun i h=>kn_all h
 obtain ⟨x,hx⟩:∃x,K[0]=x:=⟨_,rfl⟩
 have ht1:K.take 1=[x]:=by rw[←hx];exact take_one h0
 rw[hx] at hkx
 have HT1:=Lib.hid ht1;clear ht1
 have HKX:=Lib.hid hkx;clear hkx
 have HKK:=Lib.hid hkK;clear hkK
 go_enter Tryz.func111,Tryz.ntmps111
 go_wp2_with fail
 refine (rknown_vals_any A c l _ hl (hr.gr (Gr.alloc (Gr.refl _) _))).mono ?_;rintro e w1 ⟨A',c',rfl,hrv,hg⟩
 obtain ⟨hc,hf⟩:=hg.cells
 have z0:w.heap.size<w1.heap.size:=by have:=hg.size;simp at this;omega
 have q0:w1.cell? ⟨w.heap.size,0,none⟩=some (.bool false):=by go_simp
 have q1:w1.cell? ⟨w.heap.size,1,none⟩=some (.int .i64 0):=by go_simp
 have f0:w1.frozen? ⟨w.heap.size,0,none⟩=false:=by go_simp
 have f1:w1.frozen? ⟨w.heap.size,1,none⟩=false:=by go_simp
 have hgw:Gr w w1:=gq
 clear hc hf hg
 rw[hK] at hrv ⊢
 have HK:=Lib.hid hK;clear hK
 obtain ⟨ad,hAd,hb,hx0,hx1⟩:=hrv.at h0
 subst hAd
 rw[Nat.zero_mul] at hx0 hx1
 have ha0:ad.add 0=ad:=rfl
 rw[ha0] at hx0 hx1
 rw[hx] at hx0 hx1
 have HX:=Lib.hid hx;clear hx
 go_wp2
 go_loopw [7] (fun i wr=>∃(k:Nat) (b:Vl),k≤K.length∧1≤k∧i= .int .i64 k∧Gr w1 wr∧w1.heap.size<wr.heap.size∧
   wr.cell? ⟨w1.heap.size,0,none⟩=some (.bool b.ok)∧wr.cell? ⟨w1.heap.size,1,none⟩=some (.int .i64 b.n)∧
   wr.frozen? ⟨w1.heap.size,0,none⟩=false∧wr.frozen? ⟨w1.heap.size,1,none⟩=false∧knB b=true∧x=b)
  (fun i _=>K.length-(intOf i).toNat)
 case atStart=>exact ⟨1,x,h0,Nat.le_refl _,rfl,gq,by simp,by go_simp,by go_simp,by go_simp,by go_simp,HKX.out,rfl⟩
 case round=>
  obtain ⟨k,b,hk,hk1,rfl,hgr,hzr,a0,a1,af0,af1,hkb,hbm⟩:=hrel
  by_cases hlt:k<K.length
  ·
   obtain ⟨ad',hAd,hb',hy0,hy1⟩:=(hrv.gr hgr).at hlt
   obtain rfl:ad=ad':=by injection hAd
   clear hAd
   have hkk:=HKK.out k hlt
   have HKB:=Lib.hid hkb;clear hkb
   have HKK1:=Lib.hid hkk;clear hkk
   have HT:RowKit.Hid (x=b):=Lib.hid hbm;clear hbm
   go_wp2
   go_quiet (fail)
   go_wp2
   go_roundw
   case rel=>exact ⟨k+1,b,by omega,by omega,by go_num,(by repeat (first|exact Gr.refl _|assumption|refine Gr.drewN ?_ _|refine Gr.alloc ?_ _|refine Gr.drew ?_|refine Gr.setCell ?_ (by first|(simp;done)|(simp;omega)|omega) _|refine Gr.trans ?_ (by assumption))),by (try simp);omega,by go_simp,by go_simp,by go_simp,by go_simp,HKB.out,HT.out⟩
   case measure=>simp[intOf];omega
  ·
   have hkk:k=K.length:=by omega
   subst hkk
   try rw[List.take_length] at hbm
   clear hbm hkb
   go_wp2_with fail
   refine (radd_any (some ad) c' K _ (by unfold maxLen;omega) ?hrA).mono ?_;(case hrA=>exact hrv.gr hgr);rintro e w2 ⟨rfl,hg2⟩
   have hgA:Gr w1 w2:=gq
   clear hg2
   have x0:=(hgA.cell (p:=⟨w.heap.size,0,none⟩) z0).trans q0
   have x1:=(hgA.cell (p:=⟨w.heap.size,1,none⟩) z0).trans q1
   have y0:=(hgA.frozen (p:=⟨w.heap.size,0,none⟩) z0).trans f0
   have y1:=(hgA.frozen (p:=⟨w.heap.size,1,none⟩) z0).trans f1
   go_wp2
   exact bodyPost_ret (v:= .agg #[.bool (addV K).ok, .int .i64 (addV K).n]) (by simp[results,Tryz.results111,go_sem, *]) rfl ⟨rfl,gq⟩
theorem rof_avg (A:Option Addr) (c:Nat) (l:List Vl) (w:World) (hl:l.length≤1000000) (hr:Rv w A l) (K:List Vl) (hK:kn l=K) (h0:0<K.length) :
  Calls Tryz.prog 111 #[.int .i64 1, .slice A l.length c] w fun e w'=>e= .returned (.agg #[.bool (divV (addV K) (intV (K.length:Nat))).ok, .int .i64 (divV (addV K) (intV (K.length:Nat))).n])∧Gr w w':=by
 have hlen:K.length≤1000000:=by rw[←hK];exact Nat.le_trans (kn_len l) hl
 obtain ⟨hn,hn'⟩:=len_facts h0
 have hlK:(K.length:Int)≤1000000:=by omega
 have hpK:(0:Int)<(K.length:Int):=by omega
 have hkx:knB K[0]=true:=by subst hK;exact kn_all h0
 have hkK:∀i (h:i<K.length),knB K[i]=true:=by subst hK;exact fun i h=>kn_all h
 obtain ⟨x,hx⟩:∃x,K[0]=x:=⟨_,rfl⟩
 have ht1:K.take 1=[x]:=by rw[←hx];exact take_one h0
 rw[hx] at hkx
 have HT1:=Lib.hid ht1;clear ht1
 have HKX:=Lib.hid hkx;clear hkx
 have HKK:=Lib.hid hkK;clear hkK
 go_enter Tryz.func111,Tryz.ntmps111
 go_wp2_with fail
 refine (rknown_vals_any A c l _ hl (hr.gr (Gr.alloc (Gr.refl _) _))).mono ?_;rintro e w1 ⟨A',c',rfl,hrv,hg⟩
 obtain ⟨hc,hf⟩:=hg.cells
 have z0:w.heap.size<w1.heap.size:=by have:=hg.size;simp at this;omega
 have q0:w1.cell? ⟨w.heap.size,0,none⟩=some (.bool false):=by go_simp
 have q1:w1.cell? ⟨w.heap.size,1,none⟩=some (.int .i64 0):=by go_simp
 have f0:w1.frozen? ⟨w.heap.size,0,none⟩=false:=by go_simp
 have f1:w1.frozen? ⟨w.heap.size,1,none⟩=false:=by go_simp
 have hgw:Gr w w1:=gq
 clear hc hf hg
 rw[hK] at hrv ⊢
 have HK:=Lib.hid hK;clear hK
 obtain ⟨ad,hAd,hb,hx0,hx1⟩:=hrv.at h0
 subst hAd
 rw[Nat.zero_mul] at hx0 hx1
 have ha0:ad.add 0=ad:=rfl
 rw[ha0] at hx0 hx1
 rw[hx] at hx0 hx1
 have HX:=Lib.hid hx;clear hx
 go_wp2
 go_loopw [7] (fun i wr=>∃(k:Nat) (b:Vl),k≤K.length∧1≤k∧i= .int .i64 k∧Gr w1 wr∧w1.heap.size<wr.heap.size∧
   wr.cell? ⟨w1.heap.size,0,none⟩=some (.bool b.ok)∧wr.cell? ⟨w1.heap.size,1,none⟩=some (.int .i64 b.n)∧
   wr.frozen? ⟨w1.heap.size,0,none⟩=false∧wr.frozen? ⟨w1.heap.size,1,none⟩=false∧knB b=true∧x=b)
  (fun i _=>K.length-(intOf i).toNat)
 case atStart=>exact ⟨1,x,h0,Nat.le_refl _,rfl,gq,by simp,by go_simp,by go_simp,by go_simp,by go_simp,HKX.out,rfl⟩
 case round=>
  obtain ⟨k,b,hk,hk1,rfl,hgr,hzr,a0,a1,af0,af1,hkb,hbm⟩:=hrel
  by_cases hlt:k<K.length
  ·
   obtain ⟨ad',hAd,hb',hy0,hy1⟩:=(hrv.gr hgr).at hlt
   obtain rfl:ad=ad':=by injection hAd
   clear hAd
   have hkk:=HKK.out k hlt
   have HKB:=Lib.hid hkb;clear hkb
   have HKK1:=Lib.hid hkk;clear hkk
   have HT:RowKit.Hid (x=b):=Lib.hid hbm;clear hbm
   go_wp2
   go_quiet (fail)
   go_wp2
   go_roundw
   case rel=>exact ⟨k+1,b,by omega,by omega,by go_num,(by repeat (first|exact Gr.refl _|assumption|refine Gr.drewN ?_ _|refine Gr.alloc ?_ _|refine Gr.drew ?_|refine Gr.setCell ?_ (by first|(simp;done)|(simp;omega)|omega) _|refine Gr.trans ?_ (by assumption))),by (try simp);omega,by go_simp,by go_simp,by go_simp,by go_simp,HKB.out,HT.out⟩
   case measure=>simp[intOf];omega
  ·
   have hkk:k=K.length:=by omega
   subst hkk
   try rw[List.take_length] at hbm
   clear hbm hkb
   go_wp2_with fail
   refine (radd_any (some ad) c' K _ (by unfold maxLen;omega) ?hrA).mono ?_;(case hrA=>exact hrv.gr hgr);rintro e w2 ⟨rfl,hg2⟩
   have hgA:Gr w1 w2:=gq
   clear hg2
   go_wp2_with fail
   refine (rint_any (K.length:Nat) _).mono ?_;rintro e w3 ⟨rfl,hg3⟩
   have hgB:Gr w1 w3:=Gr.trans hgA hg3
   clear hg3 hgA
   go_wp2_with fail
   refine (rdiv_any (addV K) (intV (K.length:Nat)) _).mono ?_;rintro e w4 ⟨rfl,hg4⟩
   have hgC:Gr w1 w4:=Gr.trans hgB hg4
   clear hg4 hgB
   have x0:=(hgC.cell (p:=⟨w.heap.size,0,none⟩) z0).trans q0
   have x1:=(hgC.cell (p:=⟨w.heap.size,1,none⟩) z0).trans q1
   have y0:=(hgC.frozen (p:=⟨w.heap.size,0,none⟩) z0).trans f0
   have y1:=(hgC.frozen (p:=⟨w.heap.size,1,none⟩) z0).trans f1
   go_wp2
   exact bodyPost_ret (v:= .agg #[.bool (divV (addV K) (intV (K.length:Nat))).ok, .int .i64 (divV (addV K) (intV (K.length:Nat))).n]) (by simp[results,Tryz.results111,go_sem, *]) rfl ⟨rfl,gq⟩
theorem rof_last (A:Option Addr) (c:Nat) (l:List Vl) (w:World) (hl:l.length≤1000000) (hr:Rv w A l) (K:List Vl) (hK:kn l=K) (h0:0<K.length) :
  Calls Tryz.prog 111 #[.int .i64 3, .slice A l.length c] w fun e w'=>e= .returned (.agg #[.bool (K[K.length-1]).ok, .int .i64 (K[K.length-1]).n])∧Gr w w':=by
 obtain ⟨m,hm⟩:∃m,K.length=m+1:=⟨K.length-1,by omega⟩
 have hmlt:m<K.length:=by omega
 have hmK:K[K.length-1]=K[m]:=by congr 1;omega
 rw[hmK];clear hmK
 have hmi:(K.length:Int)-1=(m:Int):=by omega
 have hmI:(m:Int)<(K.length:Int):=by omega
 have hmz:(m:Int)≤1000000:=by rw[←hK] at hm;have:=kn_len l;omega
 have HM:=Lib.hid hm;clear hm
 have hlen:K.length≤1000000:=by rw[←hK];exact Nat.le_trans (kn_len l) hl
 obtain ⟨hn,hn'⟩:=len_facts h0
 have hlK:(K.length:Int)≤1000000:=by omega
 have hpK:(0:Int)<(K.length:Int):=by omega
 have hkx:knB K[0]=true:=by subst hK;exact kn_all h0
 have hkK:∀i (h:i<K.length),knB K[i]=true:=by subst hK;exact fun i h=>kn_all h
 obtain ⟨x,hx⟩:∃x,K[0]=x:=⟨_,rfl⟩
 have ht1:K.take 1=[x]:=by rw[←hx];exact take_one h0
 rw[hx] at hkx
 have HT1:=Lib.hid ht1;clear ht1
 have HKX:=Lib.hid hkx;clear hkx
 have HKK:=Lib.hid hkK;clear hkK
 go_enter Tryz.func111,Tryz.ntmps111
 go_wp2_with fail
 refine (rknown_vals_any A c l _ hl (hr.gr (Gr.alloc (Gr.refl _) _))).mono ?_;rintro e w1 ⟨A',c',rfl,hrv,hg⟩
 obtain ⟨hc,hf⟩:=hg.cells
 have z0:w.heap.size<w1.heap.size:=by have:=hg.size;simp at this;omega
 have q0:w1.cell? ⟨w.heap.size,0,none⟩=some (.bool false):=by go_simp
 have q1:w1.cell? ⟨w.heap.size,1,none⟩=some (.int .i64 0):=by go_simp
 have f0:w1.frozen? ⟨w.heap.size,0,none⟩=false:=by go_simp
 have f1:w1.frozen? ⟨w.heap.size,1,none⟩=false:=by go_simp
 have hgw:Gr w w1:=gq
 clear hc hf hg
 rw[hK] at hrv ⊢
 have HK:=Lib.hid hK;clear hK
 obtain ⟨ad,hAd,hb,hx0,hx1⟩:=hrv.at h0
 subst hAd
 rw[Nat.zero_mul] at hx0 hx1
 have ha0:ad.add 0=ad:=rfl
 rw[ha0] at hx0 hx1
 rw[hx] at hx0 hx1
 have HX:=Lib.hid hx;clear hx
 go_wp2
 go_loopw [7] (fun i wr=>∃(k:Nat) (b:Vl),k≤K.length∧1≤k∧i= .int .i64 k∧Gr w1 wr∧w1.heap.size<wr.heap.size∧
   wr.cell? ⟨w1.heap.size,0,none⟩=some (.bool b.ok)∧wr.cell? ⟨w1.heap.size,1,none⟩=some (.int .i64 b.n)∧
   wr.frozen? ⟨w1.heap.size,0,none⟩=false∧wr.frozen? ⟨w1.heap.size,1,none⟩=false∧knB b=true∧x=b)
  (fun i _=>K.length-(intOf i).toNat)
 case atStart=>exact ⟨1,x,h0,Nat.le_refl _,rfl,gq,by simp,by go_simp,by go_simp,by go_simp,by go_simp,HKX.out,rfl⟩
 case round=>
  obtain ⟨k,b,hk,hk1,rfl,hgr,hzr,a0,a1,af0,af1,hkb,hbm⟩:=hrel
  by_cases hlt:k<K.length
  ·
   obtain ⟨ad',hAd,hb',hy0,hy1⟩:=(hrv.gr hgr).at hlt
   obtain rfl:ad=ad':=by injection hAd
   clear hAd
   have hkk:=HKK.out k hlt
   have HKB:=Lib.hid hkb;clear hkb
   have HKK1:=Lib.hid hkk;clear hkk
   have HT:RowKit.Hid (x=b):=Lib.hid hbm;clear hbm
   go_wp2
   go_quiet (fail)
   go_wp2
   go_roundw
   case rel=>exact ⟨k+1,b,by omega,by omega,by go_num,(by repeat (first|exact Gr.refl _|assumption|refine Gr.drewN ?_ _|refine Gr.alloc ?_ _|refine Gr.drew ?_|refine Gr.setCell ?_ (by first|(simp;done)|(simp;omega)|omega) _|refine Gr.trans ?_ (by assumption))),by (try simp);omega,by go_simp,by go_simp,by go_simp,by go_simp,HKB.out,HT.out⟩
   case measure=>simp[intOf];omega
  ·
   have hkk:k=K.length:=by omega
   subst hkk
   try rw[List.take_length] at hbm
   clear hbm hkb
   obtain ⟨ad',hAd,hb',hy0,hy1⟩:=(hrv.gr hgr).at hmlt
   obtain rfl:ad=ad':=by injection hAd
   clear hAd
   have x0:=(hgr.cell (p:=⟨w.heap.size,0,none⟩) z0).trans q0
   have x1:=(hgr.cell (p:=⟨w.heap.size,1,none⟩) z0).trans q1
   have y0:=(hgr.frozen (p:=⟨w.heap.size,0,none⟩) z0).trans f0
   have y1:=(hgr.frozen (p:=⟨w.heap.size,1,none⟩) z0).trans f1
   go_wp2
   exact bodyPost_ret (v:= .agg #[.bool K[m].ok, .int .i64 K[m].n]) (by simp[results,Tryz.results111,go_sem, *]) rfl ⟨rfl,gq⟩
theorem ragg_of_any (kind:Int) (A:Option Addr) (c:Nat) (l:List Vl) (w:World) (hl:l.length≤1000000) (hr:Rv w A l) :
  Calls Tryz.prog 111 #[.int .i64 kind, .slice A l.length c] w fun e w'=>e= .returned (.agg #[.bool (aggV kind l).ok, .int .i64 (aggV kind l).n])∧Gr w w':=by
 by_cases h0:0<(kn l).length
 ·
  by_cases k2:kind=2
  ·
   subst k2
   have hv:aggV 2 l=addV (kn l):=by simp[aggV,ofK,h0]
   rw[hv];exact rof_sum A c l w hl hr _ rfl h0
  by_cases k1:kind=1
  ·
   subst k1
   have hv:aggV 1 l=divV (addV (kn l)) (intV ((kn l).length:Nat)):=by simp[aggV,ofK,h0]
   rw[hv];exact rof_avg A c l w hl hr _ rfl h0
  by_cases k3:kind=3
  ·
   subst k3
   have hv:aggV 3 l=(kn l)[(kn l).length-1]:=by simp[aggV,ofK,h0]
   rw[hv];exact rof_last A c l w hl hr _ rfl h0
  by_cases k4:kind=4
  ·
   subst k4
   have hv:aggV 4 l=maxV (kn l)[0] (kn l):=by simp[aggV,ofK,h0]
   rw[hv];exact rof_max A c l w hl hr _ rfl h0
  by_cases k5:kind=5
  ·
   subst k5
   have hv:aggV 5 l=minV (kn l)[0] (kn l):=by simp[aggV,ofK,h0]
   rw[hv];exact rof_min A c l w hl hr _ rfl h0
  have hv:aggV kind l=⟨false,0⟩:=by simp[aggV,ofK,h0,k1,k2,k3,k4,k5]
  rw[hv]
  by_cases hlo:kind<1
  ·
   exact rof_low kind hlo A c l w hl hr _ rfl h0
  ·
   exact rof_high kind (by omega) A c l w hl hr _ rfl h0
 ·
  have hv:aggV kind l=⟨false,0⟩:=by simp[aggV,ofK,h0]
  rw[hv];exact rof_nil kind A c l w hl hr (by omega)
def heldI (n:Int):Int:=max 0 (min n 16777216)
theorem heldI_lo (n:Int):0≤heldI n:=by unfold heldI;omega
theorem heldI_hi (n:Int):heldI n≤16777216:=by unfold heldI;omega
def enX (x k a:Int):Bool:=decide (0<k)&&decide (k≤a)&&decide (x*a≤k*1000000)
def enB (xff k a:Int):Bool:=enX (heldI xff) (heldI k) (heldI a)
def putV (kind xff:Int) (l:List Vl):Vl:=bif enB xff (kn l).length l.length then aggV kind l else ⟨false,0⟩
theorem mul_lo {x a:Int} (h:0≤x) (h':0≤a):0≤x*a:=Int.mul_nonneg h h'
theorem mul_hi {x a:Int} (_h:0≤x) (h':0≤a) (hx:x≤16777216) (ha:a≤16777216):x*a≤281474976710656:=by
 have h1:x*a≤16777216*a:=Int.mul_le_mul_of_nonneg_right hx h'
 omega
theorem held_any (n:Int) (w:World) :
  Calls Tryz.prog 123 #[.int .i64 n] w fun e w'=>e= .returned (.int .i64 (heldI n))∧Gr w w':=by
 go_enter Tryz.func123,Tryz.ntmps123
 go_wp2
 go_ret
 exact ⟨rfl,Gr.refl _⟩
theorem enough_any (xff k a:Int) (w:World) :
  Calls Tryz.prog 113 #[.int .i64 xff, .int .i64 k, .int .i64 a] w fun e w'=>e= .returned (.bool (enB xff k a))∧Gr w w':=by
 obtain ⟨X,hX⟩:∃X,heldI xff=X:=⟨_,rfl⟩
 obtain ⟨Y,hY⟩:∃Y,heldI k=Y:=⟨_,rfl⟩
 obtain ⟨Z,hZ⟩:∃Z,heldI a=Z:=⟨_,rfl⟩
 have X0:=heldI_lo xff
 have X1:=heldI_hi xff
 have Y0:=heldI_lo k
 have Y1:=heldI_hi k
 have Z0:=heldI_lo a
 have Z1:=heldI_hi a
 rw[hX] at X0 X1
 rw[hY] at Y0 Y1
 rw[hZ] at Z0 Z1
 have m0:=mul_lo X0 Z0
 have m1:=mul_hi X0 Z0 X1 Z1
 have hE:enB xff k a=enX X Y Z:=by unfold enB;rw[hX,hY,hZ]
 rw[hE];clear hE
 by_cases h1:0<Y
 ·
  by_cases h2:Y≤Z
  ·
   have hv:enX X Y Z=decide (X*Z≤Y*1000000):=by simp[enX,h1,h2]
   rw[hv];clear hv
   go_enter Tryz.func113,Tryz.ntmps113
   go_wp2_with fail
   refine (held_any xff _).mono ?_;rintro e w1 ⟨rfl,hg1⟩
   rw[hX]
   go_wp2_with fail
   refine (held_any k _).mono ?_;rintro e w2 ⟨rfl,hg2⟩
   rw[hY]
   go_wp2_with fail
   refine (held_any a _).mono ?_;rintro e w3 ⟨rfl,hg3⟩
   rw[hZ]
   have hgw:Gr w w3:=Gr.trans hg1 (Gr.trans hg2 hg3)
   clear hg1 hg2 hg3
   have HX:=Lib.hid hX;clear hX
   have HY:=Lib.hid hY;clear hY
   have HZ:=Lib.hid hZ;clear hZ
   go_wp2
   go_ret
   exact ⟨rfl,hgw⟩
  ·
   have hv:enX X Y Z=false:=by simp[enX,h1,h2]
   rw[hv];clear hv
   go_enter Tryz.func113,Tryz.ntmps113
   go_wp2_with fail
   refine (held_any xff _).mono ?_;rintro e w1 ⟨rfl,hg1⟩
   rw[hX]
   go_wp2_with fail
   refine (held_any k _).mono ?_;rintro e w2 ⟨rfl,hg2⟩
   rw[hY]
   go_wp2_with fail
   refine (held_any a _).mono ?_;rintro e w3 ⟨rfl,hg3⟩
   rw[hZ]
   have hgw:Gr w w3:=Gr.trans hg1 (Gr.trans hg2 hg3)
   clear hg1 hg2 hg3
   have HX:=Lib.hid hX;clear hX
   have HY:=Lib.hid hY;clear hY
   have HZ:=Lib.hid hZ;clear hZ
   go_wp2
   go_ret
   exact ⟨rfl,hgw⟩
 ·
  have hv:enX X Y Z=false:=by simp[enX,h1]
  rw[hv];clear hv
  go_enter Tryz.func113,Tryz.ntmps113
  go_wp2_with fail
  refine (held_any xff _).mono ?_;rintro e w1 ⟨rfl,hg1⟩
  rw[hX]
  go_wp2_with fail
  refine (held_any k _).mono ?_;rintro e w2 ⟨rfl,hg2⟩
  rw[hY]
  go_wp2_with fail
  refine (held_any a _).mono ?_;rintro e w3 ⟨rfl,hg3⟩
  rw[hZ]
  have hgw:Gr w w3:=Gr.trans hg1 (Gr.trans hg2 hg3)
  clear hg1 hg2 hg3
  have HX:=Lib.hid hX;clear hX
  have HY:=Lib.hid hY;clear hY
  have HZ:=Lib.hid hZ;clear hZ
  go_wp2
  go_ret
  exact ⟨rfl,hgw⟩
theorem put_any (kind xff:Int) (A:Option Addr) (c:Nat) (l:List Vl) (w:World) (hl:l.length≤1000000) (hr:Rv w A l) :
  Calls Tryz.prog 106 #[.int .i64 kind, .int .i64 xff, .slice A l.length c] w fun e w'=>e= .returned (.agg #[.bool (putV kind xff l).ok, .int .i64 (putV kind xff l).n])∧Gr w w':=by
 cases hen:enB xff (kn l).length l.length
 ·
  have hv:putV kind xff l=⟨false,0⟩:=by simp[putV,hen]
  rw[hv];clear hv
  go_enter Tryz.func106,Tryz.ntmps106
  go_wp2_with fail
  refine (known_vals_any A c l _ hl (hr.gr (Gr.alloc (Gr.refl _) _))).mono ?_;rintro e w1 ⟨A',c',rfl,hrv,hg⟩
  have hl':=hrv.1
  obtain ⟨hc,hf⟩:=hg.cells
  have z0:w.heap.size<w1.heap.size:=by have:=hg.size;simp at this;omega
  have q0:w1.cell? ⟨w.heap.size,0,none⟩=some (.bool false):=by go_simp
  have q1:w1.cell? ⟨w.heap.size,1,none⟩=some (.int .i64 0):=by go_simp
  have f0:w1.frozen? ⟨w.heap.size,0,none⟩=false:=by go_simp
  have f1:w1.frozen? ⟨w.heap.size,1,none⟩=false:=by go_simp
  have hgw:Gr w w1:=gq
  clear hc hf hg hl'
  go_wp2_with fail
  refine (enough_any xff (kn l).length l.length _).mono ?_;rintro e w2 ⟨rfl,hg2⟩
  rw[hen]
  have HEN:=Lib.hid hen;clear hen
  have hga:Gr w w2:=Gr.trans hgw hg2
  have x0:=(hg2.cell (p:=⟨w.heap.size,0,none⟩) z0).trans q0
  have x1:=(hg2.cell (p:=⟨w.heap.size,1,none⟩) z0).trans q1
  have y0:=(hg2.frozen (p:=⟨w.heap.size,0,none⟩) z0).trans f0
  have y1:=(hg2.frozen (p:=⟨w.heap.size,1,none⟩) z0).trans f1
  have z1:=Nat.lt_of_lt_of_le z0 hg2.size
  go_wp2
  exact bodyPost_ret (v:= .agg #[.bool false, .int .i64 0]) (by simp[results,Tryz.results106,go_sem, *]) rfl ⟨rfl,gq⟩
 ·
  have hv:putV kind xff l=aggV kind l:=by simp[putV,hen]
  rw[hv];clear hv
  go_enter Tryz.func106,Tryz.ntmps106
  go_wp2_with fail
  refine (known_vals_any A c l _ hl (hr.gr (Gr.alloc (Gr.refl _) _))).mono ?_;rintro e w1 ⟨A',c',rfl,hrv,hg⟩
  have hl':=hrv.1
  obtain ⟨hc,hf⟩:=hg.cells
  have z0:w.heap.size<w1.heap.size:=by have:=hg.size;simp at this;omega
  have q0:w1.cell? ⟨w.heap.size,0,none⟩=some (.bool false):=by go_simp
  have q1:w1.cell? ⟨w.heap.size,1,none⟩=some (.int .i64 0):=by go_simp
  have f0:w1.frozen? ⟨w.heap.size,0,none⟩=false:=by go_simp
  have f1:w1.frozen? ⟨w.heap.size,1,none⟩=false:=by go_simp
  have hgw:Gr w w1:=gq
  clear hc hf hg hl'
  go_wp2_with fail
  refine (enough_any xff (kn l).length l.length _).mono ?_;rintro e w2 ⟨rfl,hg2⟩
  rw[hen]
  have HEN:=Lib.hid hen;clear hen
  have hga:Gr w w2:=Gr.trans hgw hg2
  go_wp2_with fail
  refine (agg_of_any kind A c l _ hl (hr.gr hga)).mono ?_;rintro e w3 ⟨rfl,hg3⟩
  have hgb:Gr w1 w3:=Gr.trans hg2 hg3
  have hgc:Gr w w3:=Gr.trans hga hg3
  have x0:=(hgb.cell (p:=⟨w.heap.size,0,none⟩) z0).trans q0
  have x1:=(hgb.cell (p:=⟨w.heap.size,1,none⟩) z0).trans q1
  have y0:=(hgb.frozen (p:=⟨w.heap.size,0,none⟩) z0).trans f0
  have y1:=(hgb.frozen (p:=⟨w.heap.size,1,none⟩) z0).trans f1
  have z1:=Nat.lt_of_lt_of_le z0 hgb.size
  go_wp2
  exact bodyPost_ret (v:= .agg #[.bool (aggV kind l).ok, .int .i64 (aggV kind l).n]) (by simp[results,Tryz.results106,go_sem, *]) rfl ⟨rfl,gq⟩
theorem rheld_any (n:Int) (w:World) :
  Calls Tryz.prog 116 #[.int .i64 n] w fun e w'=>e= .returned (.int .i64 (heldI n))∧Gr w w':=by
 go_enter Tryz.func116,Tryz.ntmps116
 go_wp2
 go_ret
 exact ⟨rfl,Gr.refl _⟩
theorem renough_any (xff k a:Int) (w:World) :
  Calls Tryz.prog 109 #[.int .i64 xff, .int .i64 k, .int .i64 a] w fun e w'=>e= .returned (.bool (enB xff k a))∧Gr w w':=by
 obtain ⟨X,hX⟩:∃X,heldI xff=X:=⟨_,rfl⟩
 obtain ⟨Y,hY⟩:∃Y,heldI k=Y:=⟨_,rfl⟩
 obtain ⟨Z,hZ⟩:∃Z,heldI a=Z:=⟨_,rfl⟩
 have X0:=heldI_lo xff
 have X1:=heldI_hi xff
 have Y0:=heldI_lo k
 have Y1:=heldI_hi k
 have Z0:=heldI_lo a
 have Z1:=heldI_hi a
 rw[hX] at X0 X1
 rw[hY] at Y0 Y1
 rw[hZ] at Z0 Z1
 have m0:=mul_lo X0 Z0
 have m1:=mul_hi X0 Z0 X1 Z1
 have hE:enB xff k a=enX X Y Z:=by unfold enB;rw[hX,hY,hZ]
 rw[hE];clear hE
 by_cases h1:0<Y
 ·
  by_cases h2:Y≤Z
  ·
   have hv:enX X Y Z=decide (X*Z≤Y*1000000):=by simp[enX,h1,h2]
   rw[hv];clear hv
   go_enter Tryz.func109,Tryz.ntmps109
   go_wp2_with fail
   refine (rheld_any xff _).mono ?_;rintro e w1 ⟨rfl,hg1⟩
   rw[hX]
   go_wp2_with fail
   refine (rheld_any k _).mono ?_;rintro e w2 ⟨rfl,hg2⟩
   rw[hY]
   go_wp2_with fail
   refine (rheld_any a _).mono ?_;rintro e w3 ⟨rfl,hg3⟩
   rw[hZ]
   have hgw:Gr w w3:=Gr.trans hg1 (Gr.trans hg2 hg3)
   clear hg1 hg2 hg3
   have HX:=Lib.hid hX;clear hX
   have HY:=Lib.hid hY;clear hY
   have HZ:=Lib.hid hZ;clear hZ
   go_wp2
   go_ret
   exact ⟨rfl,hgw⟩
  ·
   have hv:enX X Y Z=false:=by simp[enX,h1,h2]
   rw[hv];clear hv
   go_enter Tryz.func109,Tryz.ntmps109
   go_wp2_with fail
   refine (rheld_any xff _).mono ?_;rintro e w1 ⟨rfl,hg1⟩
   rw[hX]
   go_wp2_with fail
   refine (rheld_any k _).mono ?_;rintro e w2 ⟨rfl,hg2⟩
   rw[hY]
   go_wp2_with fail
   refine (rheld_any a _).mono ?_;rintro e w3 ⟨rfl,hg3⟩
   rw[hZ]
   have hgw:Gr w w3:=Gr.trans hg1 (Gr.trans hg2 hg3)
   clear hg1 hg2 hg3
   have HX:=Lib.hid hX;clear hX
   have HY:=Lib.hid hY;clear hY
   have HZ:=Lib.hid hZ;clear hZ
   go_wp2
   go_ret
   exact ⟨rfl,hgw⟩
 ·
  have hv:enX X Y Z=false:=by simp[enX,h1]
  rw[hv];clear hv
  go_enter Tryz.func109,Tryz.ntmps109
  go_wp2_with fail
  refine (rheld_any xff _).mono ?_;rintro e w1 ⟨rfl,hg1⟩
  rw[hX]
  go_wp2_with fail
  refine (rheld_any k _).mono ?_;rintro e w2 ⟨rfl,hg2⟩
  rw[hY]
  go_wp2_with fail
  refine (rheld_any a _).mono ?_;rintro e w3 ⟨rfl,hg3⟩
  rw[hZ]
  have hgw:Gr w w3:=Gr.trans hg1 (Gr.trans hg2 hg3)
  clear hg1 hg2 hg3
  have HX:=Lib.hid hX;clear hX
  have HY:=Lib.hid hY;clear hY
  have HZ:=Lib.hid hZ;clear hZ
  go_wp2
  go_ret
  exact ⟨rfl,hgw⟩
theorem rput_any (kind xff:Int) (A:Option Addr) (c:Nat) (l:List Vl) (w:World) (hl:l.length≤1000000) (hr:Rv w A l) :
  Calls Tryz.prog 102 #[.int .i64 kind, .int .i64 xff, .slice A l.length c] w fun e w'=>e= .returned (.agg #[.bool (putV kind xff l).ok, .int .i64 (putV kind xff l).n])∧Gr w w':=by
 cases hen:enB xff (kn l).length l.length
 ·
  have hv:putV kind xff l=⟨false,0⟩:=by simp[putV,hen]
  rw[hv];clear hv
  go_enter Tryz.func102,Tryz.ntmps102
  go_wp2_with fail
  refine (rknown_vals_any A c l _ hl (hr.gr (Gr.alloc (Gr.refl _) _))).mono ?_;rintro e w1 ⟨A',c',rfl,hrv,hg⟩
  have hl':=hrv.1
  obtain ⟨hc,hf⟩:=hg.cells
  have z0:w.heap.size<w1.heap.size:=by have:=hg.size;simp at this;omega
  have q0:w1.cell? ⟨w.heap.size,0,none⟩=some (.bool false):=by go_simp
  have q1:w1.cell? ⟨w.heap.size,1,none⟩=some (.int .i64 0):=by go_simp
  have f0:w1.frozen? ⟨w.heap.size,0,none⟩=false:=by go_simp
  have f1:w1.frozen? ⟨w.heap.size,1,none⟩=false:=by go_simp
  have hgw:Gr w w1:=gq
  clear hc hf hg hl'
  go_wp2_with fail
  refine (renough_any xff (kn l).length l.length _).mono ?_;rintro e w2 ⟨rfl,hg2⟩
  rw[hen]
  have HEN:=Lib.hid hen;clear hen
  have hga:Gr w w2:=Gr.trans hgw hg2
  have x0:=(hg2.cell (p:=⟨w.heap.size,0,none⟩) z0).trans q0
  have x1:=(hg2.cell (p:=⟨w.heap.size,1,none⟩) z0).trans q1
  have y0:=(hg2.frozen (p:=⟨w.heap.size,0,none⟩) z0).trans f0
  have y1:=(hg2.frozen (p:=⟨w.heap.size,1,none⟩) z0).trans f1
  have z1:=Nat.lt_of_lt_of_le z0 hg2.size
  go_wp2
  exact bodyPost_ret (v:= .agg #[.bool false, .int .i64 0]) (by simp[results,Tryz.results102,go_sem, *]) rfl ⟨rfl,gq⟩
 ·
  have hv:putV kind xff l=aggV kind l:=by simp[putV,hen]
  rw[hv];clear hv
  go_enter Tryz.func102,Tryz.ntmps102
  go_wp2_with fail
  refine (rknown_vals_any A c l _ hl (hr.gr (Gr.alloc (Gr.refl _) _))).mono ?_;rintro e w1 ⟨A',c',rfl,hrv,hg⟩
  have hl':=hrv.1
  obtain ⟨hc,hf⟩:=hg.cells
  have z0:w.heap.size<w1.heap.size:=by have:=hg.size;simp at this;omega
  have q0:w1.cell? ⟨w.heap.size,0,none⟩=some (.bool false):=by go_simp
  have q1:w1.cell? ⟨w.heap.size,1,none⟩=some (.int .i64 0):=by go_simp
  have f0:w1.frozen? ⟨w.heap.size,0,none⟩=false:=by go_simp
  have f1:w1.frozen? ⟨w.heap.size,1,none⟩=false:=by go_simp
  have hgw:Gr w w1:=gq
  clear hc hf hg hl'
  go_wp2_with fail
  refine (renough_any xff (kn l).length l.length _).mono ?_;rintro e w2 ⟨rfl,hg2⟩
  rw[hen]
  have HEN:=Lib.hid hen;clear hen
  have hga:Gr w w2:=Gr.trans hgw hg2
  go_wp2_with fail
  refine (ragg_of_any kind A c l _ hl (hr.gr hga)).mono ?_;rintro e w3 ⟨rfl,hg3⟩
  have hgb:Gr w1 w3:=Gr.trans hg2 hg3
  have hgc:Gr w w3:=Gr.trans hga hg3
  have x0:=(hgb.cell (p:=⟨w.heap.size,0,none⟩) z0).trans q0
  have x1:=(hgb.cell (p:=⟨w.heap.size,1,none⟩) z0).trans q1
  have y0:=(hgb.frozen (p:=⟨w.heap.size,0,none⟩) z0).trans f0
  have y1:=(hgb.frozen (p:=⟨w.heap.size,1,none⟩) z0).trans f1
  have z1:=Nat.lt_of_lt_of_le z0 hgb.size
  go_wp2
  exact bodyPost_ret (v:= .agg #[.bool (aggV kind l).ok, .int .i64 (aggV kind l).n]) (by simp[results,Tryz.results102,go_sem, *]) rfl ⟨rfl,gq⟩
abbrev Arcs:=List (Nat×Nat)
def stpS (m:Arcs) (i:Nat):Nat:=(m.getD i (0,0)).1
def cntS (m:Arcs) (i:Nat):Nat:=(m.getD i (0,0)).2
theorem stpS_at {m:Arcs} {i:Nat} (h:i<m.length):stpS m i=m[i].1:=by unfold stpS;rw[List.getD_eq_getElem?_getD,List.getElem?_eq_getElem h];rfl
theorem cntS_at {m:Arcs} {i:Nat} (h:i<m.length):cntS m i=m[i].2:=by unfold cntS;rw[List.getD_eq_getElem?_getD,List.getElem?_eq_getElem h];rfl
def atS (m:Arcs) (i:Nat) (t:Int):Nat:=offS m i+12*(placeS (stpS m i) (cntS m i) t).toNat
def slotS (D:List UInt8) (k:Nat):List UInt8:=(D.drop k).take 12
def seenS (m:Arcs) (D:List UInt8) (i:Nat) (t:Int):Vl:=if decT (slotS D (atS m i t))=t then ofV (decN (slotS D (atS m i t))) else ⟨false,0⟩
def hasV (m:Arcs) (D:List UInt8) (i:Nat) (t:Int):Vl:=if alignS t (stpS m i)<1 then ⟨false,0⟩ else seenS m D i (alignS t (stpS m i))
def layS (m:Arcs) (D:List UInt8) (i:Nat) (t n:Int):List UInt8:=putB D (atS m i t) (encP t n)
def reachB (a:Nat×Nat) (t now:Int):Bool:=decide (t≤now)&&decide (now-t<(a.1:Int)*a.2)
def firstS (m:Arcs) (t now:Int):Nat:=m.findIdx fun a=>reachB a t now
def gathL (m:Arcs) (D:List UInt8) (i:Nat) (t:Int):List Vl:=(List.range (stpS m i/stpS m (i-1))).map fun (k:Nat)=>hasV m D (i-1) (t+k*stpS m (i-1))
def gathV (ag xf:Int) (m:Arcs) (D:List UInt8) (i:Nat) (t:Int):Vl:=putV ag xf (gathL m D i (alignS t (stpS m i)))
def gathS (ag xf:Int) (m:Arcs) (D:List UInt8) (i:Nat) (t:Int):Option (List UInt8):=
 if (gathV ag xf m D i t).ok=true∧1≤alignS t (stpS m i) then some (layS m D i (alignS t (stpS m i)) (gathV ag xf m D i t).n) else none
def upS (ag xf:Int) (m:Arcs) (t:Int):Nat→Nat→List UInt8→List UInt8
 | _,0,D=>D
 | i,k+1,D=>match gathS ag xf m D i t with
  | none=>D
  | some D'=>upS ag xf m t (i+1) k D'
def laysS (ag xf:Int) (m:Arcs) (D:List UInt8) (t n now:Int):Option (List UInt8):=
 if t<1∨now<t∨(ofV n).ok=false then none
 else if firstS m t now=m.length then none
 else if alignS t (stpS m (firstS m t now))<1 then none
 else some (upS ag xf m t (firstS m t now+1) (m.length-(firstS m t now+1)) (layS m D (firstS m t now) (alignS t (stpS m (firstS m t now))) n))
def updS (ag xf:Int) (m:Arcs) (now:Int):List (Int×Int)→Nat×List UInt8→Nat×List UInt8
 | [],s=>s
 | p::r,s=>match laysS ag xf m s.2 p.1 p.2 now with
  | none=>updS ag xf m now r s
  | some D=>updS ag xf m now r (s.1+1,D)
theorem placeS_nat {m:Arcs} {i:Nat} (h:1≤cntS m i) (t:Int):(placeS (stpS m i) (cntS m i) t).toNat<cntS m i:=by
 have:=placeS_lt (t:=t) (step:=(stpS m i:Int)) (count:=(cntS m i:Int)) (by omega)
 omega
structure MayF (m:Arcs):Prop where
 l1:1≤m.length
 l8:m.length≤8
 sz:sizeS m≤1048576
 last:(lastS m).1*(lastS m).2≤4294967295
 s1:∀i,i<m.length→1≤stpS m i∧stpS m i≤16777216
 c1:∀i,i<m.length→1≤cntS m i∧cntS m i≤16777216
theorem MayF.of {m:Arcs} (h:mayS m=true):MayF m:=by
 obtain ⟨h1,h2,h3,h4,h5⟩:=mayS_facts h
 refine ⟨h1,h2,h3,h4,fun i hi=>?_,fun i hi=>?_⟩
 ·
  rw[stpS_at hi];exact ⟨(h5 i hi).1,(h5 i hi).2.1⟩
 ·
  rw[cntS_at hi];exact ⟨(h5 i hi).2.2.1,(h5 i hi).2.2.2⟩
theorem MayF.ofH {ag xf:Int} {m:Arcs} (h:mayH ag xf (ints m)=true):MayF m:= .of (by unfold mayH at h;rw[Bool.and_eq_true,nats_ints] at h;exact h.2)
theorem atS_in {m:Arcs} (h:MayF m) {i:Nat} (hi:i<m.length) (t:Int):16≤atS m i t∧atS m i t+12≤sizeS m:=by
 have h1:=placeS_nat (h.c1 i hi).1 t
 have h2:=offS_succ hi
 have h3:=offS_le (m:=m) (i:=i+1) (by omega)
 rw[cntS_at hi] at h1
 have h4:16≤offS m i:=by unfold offS;omega
 unfold atS
 rw[cntS_at hi]
 omega
theorem layS_len {m:Arcs} (h:MayF m) {D:List UInt8} (hD:D.length=sizeS m) {i:Nat} (hi:i<m.length) (t n:Int):(layS m D i t n).length=sizeS m:=by
 unfold layS
 rw[putB_len (by rw[encP_len,hD];exact (atS_in h hi t).2),hD]
theorem firstS_le (m:Arcs) (t now:Int):firstS m t now≤m.length:=List.findIdx_le_length
def whichS (m:Arcs) (d:Int):Nat:=(m.take (m.length-1)).findIdx fun a=>decide (d≤(a.1:Int)*a.2)
def spanS (m:Arcs):Nat:=(lastS m).1*(lastS m).2
def frS (m:Arcs) (now frm:Int):Int:=max (max 0 frm) (now-spanS m)
def startS (m:Arcs) (i:Nat) (fr:Int):Int:=alignS (fr+stpS m i) (stpS m i)
def endW (m:Arcs) (i:Nat) (fr un:Int):Int:=max (alignS (un+stpS m i) (stpS m i)) (startS m i fr+stpS m i)
def valsS (m:Arcs) (D:List UInt8) (i:Nat) (start:Int) (k:Nat):List Vl:=(List.range k).map fun (j:Nat)=>hasV m D i (start+j*stpS m i)
end Go.Proofs.YtoncapkmaeghfaaGreat
