import Derived.Test.YtoncapkmaeghfaaRunFxTwo
import Derived.Test.YtoncapkmaeghfaaRunVfFs
import Derived.Outline
import Derived.Deep.RegionHeld3
import Derived.StillTailTactics
import Derived.BigQuiet
import Derived.Test.YtoncapkmaeghfaaRunWhFit
import Derived.Test.YtoncapkmaeghfaaRunFxBase
import Derived.Test.YtoncapkmaeghfaaVfShelf
set_option linter.all false
set_option maxRecDepth 1000000
set_option maxHeartbeats 12800000
namespace Go.Proofs.Ytoncapkmaeghfaa
open Go.RowKit
def mdV (a b c:Int):Vl:=bif mdOk a b c then ofV (mdN a b c) else ⟨false,0⟩
def divV (a b:Vl):Vl:=bif knB a&&knB b then mdV a.n 1000000 b.n else ⟨false,0⟩
theorem muldiv_at (a b c:Int) (ha1: -9223372036854775808≤a) (ha2:a≤9223372036854775807) (hb1: -9223372036854775808≤b) (hb2:b≤9223372036854775807) (hc1: -9223372036854775808≤c) (hc2:c≤9223372036854775807) (w:World) :
  Calls Try.prog 79 #[.int .i64 a, .int .i64 b, .int .i64 c] w fun e w'=>e= .returned (.tuple #[.int .i64 (mdN a b c), .bool (mdOk a b c)])∧Gr w w':=
 (muldiv_any a b c ha1 ha2 hb1 hb2 hc1 hc2 w).mono fun _ _ h=>h
theorem val_any (n:Int) (ok:Bool) (w:World) :
  Calls Try.prog 78 #[.int .i64 n, .bool ok] w fun e w'=>e= .returned (.agg #[.bool (bif ok then ofV n else ⟨false,0⟩).ok, .int .i64 (bif ok then ofV n else ⟨false,0⟩).n])∧Gr w w':=by
 cases ok
 ·
  rw[cond_false]
  go_enter Try.func78,Try.ntmps78
  go_wp2
  exact bodyPost_ret (v:= .agg #[.bool false, .int .i64 0]) (by simp[results,Try.results78,go_sem]) rfl ⟨rfl,gq⟩
 ·
  rw[cond_true]
  go_enter Try.func78,Try.ntmps78
  go_wp2_with fail
  refine (of_any n _).mono ?_;rintro e w1 ⟨rfl,hg⟩;obtain ⟨hc,hf⟩:=hg.cells;have hz:=hg.size;(try simp at hz);have z0:w.heap.size<w1.heap.size:=(by omega)
  go_wp2
  have q0:w1.cell? ⟨w.heap.size,0,none⟩=some (.bool false):=by go_simp
  have q1:w1.cell? ⟨w.heap.size,1,none⟩=some (.int .i64 0):=by go_simp
  exact bodyPost_ret (v:= .agg #[.bool (ofV n).ok, .int .i64 (ofV n).n]) (by simp[results,Try.results78,go_sem, *]) rfl ⟨rfl,gq⟩
theorem div_any (a b:Vl) (w:World) :
  Calls Try.prog 73 #[.agg #[.bool a.ok, .int .i64 a.n], .agg #[.bool b.ok, .int .i64 b.n]] w fun e w'=>e= .returned (.agg #[.bool (divV a b).ok, .int .i64 (divV a b).n])∧Gr w w':=by
 cases ha:knB a
 ·
  have hv:divV a b=⟨false,0⟩:=by simp[divV,ha]
  rw[hv];clear hv
  go_enter Try.func73,Try.ntmps73
  go_wp2_with fail
  refine (kn_any a _).mono ?_;rintro e w1 ⟨rfl,hg⟩;obtain ⟨hc,hf⟩:=hg.cells;have hz:=hg.size;(try simp at hz);have z0:w.heap.size<w1.heap.size:=(by omega);have z1:w.heap.size+1<w1.heap.size:=(by omega);have z2:w.heap.size+1+1<w1.heap.size:=(by omega)
  go_wp2
  have q0:w1.cell? ⟨w.heap.size+1+1,0,none⟩=some (.bool false):=by go_simp
  have q1:w1.cell? ⟨w.heap.size+1+1,1,none⟩=some (.int .i64 0):=by go_simp
  exact bodyPost_ret (v:= .agg #[.bool false, .int .i64 0]) (by simp[results,Try.results73,go_sem, *]) rfl ⟨rfl,gq⟩
 cases hb:knB b
 ·
  have hv:divV a b=⟨false,0⟩:=by simp[divV,hb]
  rw[hv];clear hv
  go_enter Try.func73,Try.ntmps73
  go_wp2_with fail
  refine (kn_any a _).mono ?_;rintro e w1 ⟨rfl,hg⟩;obtain ⟨hc,hf⟩:=hg.cells;have hz:=hg.size;(try simp at hz);have z0:w.heap.size<w1.heap.size:=(by omega);have z1:w.heap.size+1<w1.heap.size:=(by omega);have z2:w.heap.size+1+1<w1.heap.size:=(by omega)
  go_wp2_with fail
  refine (kn_any b _).mono ?_;rintro e w1 ⟨rfl,hg⟩;obtain ⟨hc,hf⟩:=hg.cells;have hz:=hg.size;(try simp at hz);have z0:w.heap.size<w1.heap.size:=(by omega);have z1:w.heap.size+1<w1.heap.size:=(by omega);have z2:w.heap.size+1+1<w1.heap.size:=(by omega)
  go_wp2
  have q0:w1.cell? ⟨w.heap.size+1+1,0,none⟩=some (.bool false):=by go_simp
  have q1:w1.cell? ⟨w.heap.size+1+1,1,none⟩=some (.int .i64 0):=by go_simp
  exact bodyPost_ret (v:= .agg #[.bool false, .int .i64 0]) (by simp[results,Try.results73,go_sem, *]) rfl ⟨rfl,gq⟩
 have hv:divV a b=mdV a.n 1000000 b.n:=by simp[divV,ha,hb]
 rw[hv];clear hv
 have a1:=knB_lo ha
 have a2:=knB_hi ha
 have b1:=knB_lo hb
 have b2:=knB_hi hb
 have M:=Lib.hid (muldiv_at a.n 1000000 b.n (by omega) (by omega) (by omega) (by omega) (by omega) (by omega))
 go_enter Try.func73,Try.ntmps73
 go_wp2_with fail
 refine (kn_any a _).mono ?_;rintro e w1 ⟨rfl,hg⟩;obtain ⟨hc,hf⟩:=hg.cells;have hz:=hg.size;(try simp at hz);have z0:w.heap.size<w1.heap.size:=(by omega);have z1:w.heap.size+1<w1.heap.size:=(by omega);have z2:w.heap.size+1+1<w1.heap.size:=(by omega)
 go_wp2_with fail
 refine (kn_any b _).mono ?_;rintro e w1 ⟨rfl,hg⟩;obtain ⟨hc,hf⟩:=hg.cells;have hz:=hg.size;(try simp at hz);have z0:w.heap.size<w1.heap.size:=(by omega);have z1:w.heap.size+1<w1.heap.size:=(by omega);have z2:w.heap.size+1+1<w1.heap.size:=(by omega)
 go_wp2_with fail
 refine (M.out _).mono ?_;rintro e w1 ⟨rfl,hg⟩;obtain ⟨hc,hf⟩:=hg.cells;have hz:=hg.size;(try simp at hz);have z0:w.heap.size<w1.heap.size:=(by omega);have z1:w.heap.size+1<w1.heap.size:=(by omega);have z2:w.heap.size+1+1<w1.heap.size:=(by omega)
 go_wp2_with fail
 refine (val_any (mdN a.n 1000000 b.n) (mdOk a.n 1000000 b.n) _).mono ?_;rintro e w1 ⟨rfl,hg⟩;obtain ⟨hc,hf⟩:=hg.cells;have hz:=hg.size;(try simp at hz);have z0:w.heap.size<w1.heap.size:=(by omega);have z1:w.heap.size+1<w1.heap.size:=(by omega);have z2:w.heap.size+1+1<w1.heap.size:=(by omega)
 go_wp2
 have q0:w1.cell? ⟨w.heap.size+1+1,0,none⟩=some (.bool false):=by go_simp
 have q1:w1.cell? ⟨w.heap.size+1+1,1,none⟩=some (.int .i64 0):=by go_simp
 exact bodyPost_ret (v:= .agg #[.bool (mdV a.n 1000000 b.n).ok, .int .i64 (mdV a.n 1000000 b.n).n]) (by simp[results,Try.results73,go_sem,mdV, *]) rfl ⟨rfl,gq⟩
def maxV (x:Vl) (l:List Vl):Vl:=l.foldl (fun b v=>bif lessB b v then v else b) x
def minV (x:Vl) (l:List Vl):Vl:=l.foldl (fun b v=>bif lessB v b then v else b) x
def ofK (kind:Int) (K:List Vl):Vl:=
 if h:0<K.length then if kind=2 then addV K else if kind=1 then divV (addV K) (intV (K.length:Nat)) else if kind=3 then K[K.length-1] else if kind=4 then maxV K[0] K else if kind=5 then minV K[0] K else ⟨false,0⟩
 else ⟨false,0⟩
def aggV (kind:Int) (l:List Vl):Vl:=ofK kind (kn l)
theorem max_take {x:Vl} {K:List Vl} {k:Nat} (h:k<K.length):maxV x (K.take (k+1))=bif lessB (maxV x (K.take k)) K[k] then K[k] else maxV x (K.take k):=by
 unfold maxV;rw[List.take_succ_eq_append_getElem h,List.foldl_append];rfl
theorem min_take {x:Vl} {K:List Vl} {k:Nat} (h:k<K.length):minV x (K.take (k+1))=bif lessB K[k] (minV x (K.take k)) then K[k] else minV x (K.take k):=by
 unfold minV;rw[List.take_succ_eq_append_getElem h,List.foldl_append];rfl
theorem len_facts {K:List Vl} (h0:0<K.length):((K.length:Int)==0)=false∧(K.length==0)=false:=by
 constructor
 ·
  exact beq_eq_false_iff_ne.2 (by omega)
 ·
  exact beq_eq_false_iff_ne.2 (by omega)
theorem of_nil (kind:Int) (A:Option Addr) (c:Nat) (l:List Vl) (w:World) (hl:l.length≤1000000) (hr:Rv w A l) (h0:(kn l).length=0) :
  Calls Try.prog 68 #[.int .i64 kind, .slice A l.length c] w fun e w'=>e= .returned (.agg #[.bool (⟨false,0⟩:Vl).ok, .int .i64 (⟨false,0⟩:Vl).n])∧Gr w w':=by
 obtain ⟨K,hK⟩:∃K,K=kn l:=⟨_,rfl⟩
 have hn:(((kn l).length:Int)==0)=true:=by simp[h0]
 have hn':((kn l).length==0)=true:=by simp[h0]
 have H0:=Lib.hid h0;clear h0 hK
 go_enter Try.func68,Try.ntmps68
 go_wp2_with fail
 refine (known_vals_any A c l _ hl (hr.gr (Gr.alloc (Gr.refl _) _))).mono ?_;rintro e w1 ⟨A',c',rfl,hrv,hg⟩
 obtain ⟨hc,hf⟩:=hg.cells
 have z0:w.heap.size<w1.heap.size:=by have:=hg.size;simp at this;omega
 have q0:w1.cell? ⟨w.heap.size,0,none⟩=some (.bool false):=by go_simp
 have q1:w1.cell? ⟨w.heap.size,1,none⟩=some (.int .i64 0):=by go_simp
 have f0:w1.frozen? ⟨w.heap.size,0,none⟩=false:=by go_simp
 have f1:w1.frozen? ⟨w.heap.size,1,none⟩=false:=by go_simp
 have hgw:Gr w w1:=gq
 clear hc hf hg
 go_wp2
 exact bodyPost_ret (v:= .agg #[.bool false, .int .i64 0]) (by simp[results,Try.results68,go_sem, *]) rfl ⟨rfl,gq⟩
theorem of_sum (A:Option Addr) (c:Nat) (l:List Vl) (w:World) (hl:l.length≤1000000) (hr:Rv w A l) (K:List Vl) (hK:kn l=K) (h0:0<K.length) :
  Calls Try.prog 68 #[.int .i64 2, .slice A l.length c] w fun e w'=>e= .returned (.agg #[.bool (addV K).ok, .int .i64 (addV K).n])∧Gr w w':=by
 have hlen:K.length≤1000000:=by rw[←hK];exact Nat.le_trans (kn_len l) hl
 obtain ⟨hn,hn'⟩:=len_facts h0
 have hlK:(K.length:Int)≤1000000:=by omega
 have hpK:(0:Int)<(K.length:Int):=by omega
 go_enter Try.func68,Try.ntmps68
 go_wp2_with fail
 refine (known_vals_any A c l _ hl (hr.gr (Gr.alloc (Gr.refl _) _))).mono ?_;rintro e w1 ⟨A',c',rfl,hrv,hg⟩
 obtain ⟨hc,hf⟩:=hg.cells
 have z0:w.heap.size<w1.heap.size:=by have:=hg.size;simp at this;omega
 have q0:w1.cell? ⟨w.heap.size,0,none⟩=some (.bool false):=by go_simp
 have q1:w1.cell? ⟨w.heap.size,1,none⟩=some (.int .i64 0):=by go_simp
 have f0:w1.frozen? ⟨w.heap.size,0,none⟩=false:=by go_simp
 have f1:w1.frozen? ⟨w.heap.size,1,none⟩=false:=by go_simp
 have hgw:Gr w w1:=gq
 clear hc hf hg
 rw[hK] at hrv ⊢
 have HK:=Lib.hid hK;clear hK
 obtain ⟨ad,hAd,hb,hx0,hx1⟩:=hrv.at h0
 subst hAd
 rw[Nat.zero_mul] at hx0 hx1
 have ha0:ad.add 0=ad:=rfl
 rw[ha0] at hx0 hx1
 go_wp2_with fail
 refine (add_any (some ad) c' K _ (by unfold maxLen;omega) ?hrA).mono ?_;(case hrA=>exact hrv.gr gq);rintro e w2 ⟨rfl,hg2⟩
 have hgA:Gr w1 w2:=gq
 clear hg2
 have x0:=(hgA.cell (p:=⟨w.heap.size,0,none⟩) z0).trans q0
 have x1:=(hgA.cell (p:=⟨w.heap.size,1,none⟩) z0).trans q1
 have y0:=(hgA.frozen (p:=⟨w.heap.size,0,none⟩) z0).trans f0
 have y1:=(hgA.frozen (p:=⟨w.heap.size,1,none⟩) z0).trans f1
 go_wp2
 exact bodyPost_ret (v:= .agg #[.bool (addV K).ok, .int .i64 (addV K).n]) (by simp[results,Try.results68,go_sem, *]) rfl ⟨rfl,gq⟩
theorem of_avg (A:Option Addr) (c:Nat) (l:List Vl) (w:World) (hl:l.length≤1000000) (hr:Rv w A l) (K:List Vl) (hK:kn l=K) (h0:0<K.length) :
  Calls Try.prog 68 #[.int .i64 1, .slice A l.length c] w fun e w'=>e= .returned (.agg #[.bool (divV (addV K) (intV (K.length:Nat))).ok, .int .i64 (divV (addV K) (intV (K.length:Nat))).n])∧Gr w w':=by
 have hlen:K.length≤1000000:=by rw[←hK];exact Nat.le_trans (kn_len l) hl
 obtain ⟨hn,hn'⟩:=len_facts h0
 have hlK:(K.length:Int)≤1000000:=by omega
 have hpK:(0:Int)<(K.length:Int):=by omega
 go_enter Try.func68,Try.ntmps68
 go_wp2_with fail
 refine (known_vals_any A c l _ hl (hr.gr (Gr.alloc (Gr.refl _) _))).mono ?_;rintro e w1 ⟨A',c',rfl,hrv,hg⟩
 obtain ⟨hc,hf⟩:=hg.cells
 have z0:w.heap.size<w1.heap.size:=by have:=hg.size;simp at this;omega
 have q0:w1.cell? ⟨w.heap.size,0,none⟩=some (.bool false):=by go_simp
 have q1:w1.cell? ⟨w.heap.size,1,none⟩=some (.int .i64 0):=by go_simp
 have f0:w1.frozen? ⟨w.heap.size,0,none⟩=false:=by go_simp
 have f1:w1.frozen? ⟨w.heap.size,1,none⟩=false:=by go_simp
 have hgw:Gr w w1:=gq
 clear hc hf hg
 rw[hK] at hrv ⊢
 have HK:=Lib.hid hK;clear hK
 obtain ⟨ad,hAd,hb,hx0,hx1⟩:=hrv.at h0
 subst hAd
 rw[Nat.zero_mul] at hx0 hx1
 have ha0:ad.add 0=ad:=rfl
 rw[ha0] at hx0 hx1
 go_wp2_with fail
 refine (add_any (some ad) c' K _ (by unfold maxLen;omega) ?hrA).mono ?_;(case hrA=>exact hrv.gr gq);rintro e w2 ⟨rfl,hg2⟩
 have hgA:Gr w1 w2:=gq
 clear hg2
 have HA:=Lib.hid hgA
 go_wp2_with fail
 refine (int_any (K.length:Nat) _).mono ?_;rintro e w3 ⟨rfl,hg3⟩
 have hgB:Gr w1 w3:=Gr.trans hgA hg3
 clear hg3 hgA
 go_wp2_with fail
 refine (div_any (addV K) (intV (K.length:Nat)) _).mono ?_;rintro e w4 ⟨rfl,hg4⟩
 have hgC:Gr w1 w4:=Gr.trans hgB hg4
 clear hg4 hgB
 have x0:=(hgC.cell (p:=⟨w.heap.size,0,none⟩) z0).trans q0
 have x1:=(hgC.cell (p:=⟨w.heap.size,1,none⟩) z0).trans q1
 have y0:=(hgC.frozen (p:=⟨w.heap.size,0,none⟩) z0).trans f0
 have y1:=(hgC.frozen (p:=⟨w.heap.size,1,none⟩) z0).trans f1
 go_wp2
 exact bodyPost_ret (v:= .agg #[.bool (divV (addV K) (intV (K.length:Nat))).ok, .int .i64 (divV (addV K) (intV (K.length:Nat))).n]) (by simp[results,Try.results68,go_sem, *]) rfl ⟨rfl,gq⟩
theorem of_last (A:Option Addr) (c:Nat) (l:List Vl) (w:World) (hl:l.length≤1000000) (hr:Rv w A l) (K:List Vl) (hK:kn l=K) (h0:0<K.length) :
  Calls Try.prog 68 #[.int .i64 3, .slice A l.length c] w fun e w'=>e= .returned (.agg #[.bool (K[K.length-1]).ok, .int .i64 (K[K.length-1]).n])∧Gr w w':=by
 obtain ⟨m,hm⟩:∃m,K.length=m+1:=⟨K.length-1,by omega⟩
 have hmlt:m<K.length:=by omega
 have hmK:K[K.length-1]=K[m]:=by congr 1;omega
 rw[hmK];clear hmK
 have hmi:(K.length:Int)-1=(m:Int):=by omega
 have hmI:(m:Int)<(K.length:Int):=by omega
 have hmz:(m:Int)≤1000000:=by rw[←hK] at hm;have:=kn_len l;omega
 have hlen:K.length≤1000000:=by rw[←hK];exact Nat.le_trans (kn_len l) hl
 obtain ⟨hn,hn'⟩:=len_facts h0
 have hlK:(K.length:Int)≤1000000:=by omega
 have hpK:(0:Int)<(K.length:Int):=by omega
 go_enter Try.func68,Try.ntmps68
 go_wp2_with fail
 refine (known_vals_any A c l _ hl (hr.gr (Gr.alloc (Gr.refl _) _))).mono ?_;rintro e w1 ⟨A',c',rfl,hrv,hg⟩
 obtain ⟨hc,hf⟩:=hg.cells
 have z0:w.heap.size<w1.heap.size:=by have:=hg.size;simp at this;omega
 have q0:w1.cell? ⟨w.heap.size,0,none⟩=some (.bool false):=by go_simp
 have q1:w1.cell? ⟨w.heap.size,1,none⟩=some (.int .i64 0):=by go_simp
 have f0:w1.frozen? ⟨w.heap.size,0,none⟩=false:=by go_simp
 have f1:w1.frozen? ⟨w.heap.size,1,none⟩=false:=by go_simp
 have hgw:Gr w w1:=gq
 clear hc hf hg
 rw[hK] at hrv ⊢
 have HK:=Lib.hid hK;clear hK
 obtain ⟨ad,hAd,hb,hx0,hx1⟩:=hrv.at h0
 subst hAd
 rw[Nat.zero_mul] at hx0 hx1
 have ha0:ad.add 0=ad:=rfl
 rw[ha0] at hx0 hx1
 obtain ⟨ad',hAd,hb',hy0,hy1⟩:=hrv.at hmlt
 obtain rfl:ad=ad':=by injection hAd
 have HM:=Lib.hid hm;clear hm hAd
 have hya:∀o,(w1.alloc o).cell? (ad.add (m*2))=some (.bool K[m].ok):=fun o=>(Gr.cell (Gr.alloc (Gr.refl _) o) (by rw[add_blk];exact hb)).trans hy0
 have hyb:∀o,(w1.alloc o).cell? ⟨(ad.add (m*2)).block,(ad.add (m*2)).off+1,none⟩=some (.int .i64 K[m].n):=fun o=>(Gr.cell (Gr.alloc (Gr.refl _) o) (by rw[add_blk];exact hb)).trans hy1
 go_wp2
 exact bodyPost_ret (v:= .agg #[.bool K[m].ok, .int .i64 K[m].n]) (by simp[results,Try.results68,go_sem, *]) rfl ⟨rfl,gq⟩
theorem of_max (A:Option Addr) (c:Nat) (l:List Vl) (w:World) (hl:l.length≤1000000) (hr:Rv w A l) (K:List Vl) (hK:kn l=K) (h0:0<K.length) :
  Calls Try.prog 68 #[.int .i64 4, .slice A l.length c] w fun e w'=>e= .returned (.agg #[.bool (maxV K[0] K).ok, .int .i64 (maxV K[0] K).n])∧Gr w w':=by
 obtain ⟨x,hx⟩:∃x,K[0]=x:=⟨_,rfl⟩
 rw[hx]
 have hlen:K.length≤1000000:=by rw[←hK];exact Nat.le_trans (kn_len l) hl
 obtain ⟨hn,hn'⟩:=len_facts h0
 have hlK:(K.length:Int)≤1000000:=by omega
 have hpK:(0:Int)<(K.length:Int):=by omega
 go_enter Try.func68,Try.ntmps68
 go_wp2_with fail
 refine (known_vals_any A c l _ hl (hr.gr (Gr.alloc (Gr.refl _) _))).mono ?_;rintro e w1 ⟨A',c',rfl,hrv,hg⟩
 obtain ⟨hc,hf⟩:=hg.cells
 have z0:w.heap.size<w1.heap.size:=by have:=hg.size;simp at this;omega
 have q0:w1.cell? ⟨w.heap.size,0,none⟩=some (.bool false):=by go_simp
 have q1:w1.cell? ⟨w.heap.size,1,none⟩=some (.int .i64 0):=by go_simp
 have f0:w1.frozen? ⟨w.heap.size,0,none⟩=false:=by go_simp
 have f1:w1.frozen? ⟨w.heap.size,1,none⟩=false:=by go_simp
 have hgw:Gr w w1:=gq
 clear hc hf hg
 rw[hK] at hrv ⊢
 have HK:=Lib.hid hK;clear hK
 obtain ⟨ad,hAd,hb,hx0,hx1⟩:=hrv.at h0
 subst hAd
 rw[Nat.zero_mul] at hx0 hx1
 have ha0:ad.add 0=ad:=rfl
 rw[ha0] at hx0 hx1
 rw[hx] at hx0 hx1
 have HX:=Lib.hid hx;clear hx
 go_wp2
 go_loopw [45] (fun i wr=>∃(k:Nat) (b:Vl),k≤K.length∧i= .int .i64 k∧Gr w1 wr∧w1.heap.size<wr.heap.size∧
   wr.cell? ⟨w1.heap.size,0,none⟩=some (.bool b.ok)∧wr.cell? ⟨w1.heap.size,1,none⟩=some (.int .i64 b.n)∧
   wr.frozen? ⟨w1.heap.size,0,none⟩=false∧wr.frozen? ⟨w1.heap.size,1,none⟩=false∧b=maxV x (K.take k))
  (fun i _=>K.length-(intOf i).toNat)
 case atStart=>exact ⟨0,x,Nat.zero_le _,rfl,gq,by simp,by go_simp,by go_simp,by go_simp,by go_simp,rfl⟩
 case round=>
  obtain ⟨k,b,hk,rfl,hgr,hzr,a0,a1,af0,af1,hbm⟩:=hrel
  by_cases hlt:k<K.length
  ·
   obtain ⟨ad',hAd,hb',hy0,hy1⟩:=(hrv.gr hgr).at hlt
   obtain rfl:ad=ad':=by injection hAd
   have Ht:=max_take (x:=x) hlt
   rw[←hbm] at Ht
   clear hbm hAd
   cases hlb:lessB b K[k]
   ·
    rw[hlb] at Ht
    have HT:=Lib.hid Ht;clear Ht
    go_wp2_with fail
    refine (less_any b K[k] _).mono ?_;rintro e w2 ⟨rfl,hg2⟩;obtain ⟨hc2,hf2⟩:=hg2.cells;have hz2:=hg2.size;(try simp at hz2)
    have y2:w1.heap.size<w2.heap.size:=(by omega)
    have y3:w1.heap.size<wr.heap.size+1:=(by omega)
    go_wp2
    go_roundw
    case rel=>exact ⟨k+1,b,by omega,by go_num,gq,by omega,by go_simp,by go_simp,by go_simp,by go_simp,HT.out.symm⟩
    case measure=>simp[intOf];omega
   ·
    rw[hlb] at Ht
    have HT:=Lib.hid Ht;clear Ht
    go_wp2_with fail
    refine (less_any b K[k] _).mono ?_;rintro e w2 ⟨rfl,hg2⟩;obtain ⟨hc2,hf2⟩:=hg2.cells;have hz2:=hg2.size;(try simp at hz2)
    have y2:w1.heap.size<w2.heap.size:=(by omega)
    have y3:w1.heap.size<wr.heap.size+1:=(by omega)
    go_wp2
    go_roundw
    case rel=>exact ⟨k+1,K[k],by omega,by go_num,gq,by simp;omega,by go_simp,by go_simp,by go_simp,by go_simp,HT.out.symm⟩
    case measure=>simp[intOf];omega
  ·
   have hkk:k=K.length:=by omega
   subst hkk
   rw[List.take_length] at hbm
   subst hbm
   have x0:=(hgr.cell (p:=⟨w.heap.size,0,none⟩) z0).trans q0
   have x1:=(hgr.cell (p:=⟨w.heap.size,1,none⟩) z0).trans q1
   have y0:=(hgr.frozen (p:=⟨w.heap.size,0,none⟩) z0).trans f0
   have y1:=(hgr.frozen (p:=⟨w.heap.size,1,none⟩) z0).trans f1
   go_wp2
   exact bodyPost_ret (v:= .agg #[.bool (maxV x K).ok, .int .i64 (maxV x K).n]) (by simp[results,Try.results68,go_sem, *]) rfl ⟨rfl,gq⟩
theorem of_min (A:Option Addr) (c:Nat) (l:List Vl) (w:World) (hl:l.length≤1000000) (hr:Rv w A l) (K:List Vl) (hK:kn l=K) (h0:0<K.length) :
  Calls Try.prog 68 #[.int .i64 5, .slice A l.length c] w fun e w'=>e= .returned (.agg #[.bool (minV K[0] K).ok, .int .i64 (minV K[0] K).n])∧Gr w w':=by
 obtain ⟨x,hx⟩:∃x,K[0]=x:=⟨_,rfl⟩
 rw[hx]
 have hlen:K.length≤1000000:=by rw[←hK];exact Nat.le_trans (kn_len l) hl
 obtain ⟨hn,hn'⟩:=len_facts h0
 have hlK:(K.length:Int)≤1000000:=by omega
 have hpK:(0:Int)<(K.length:Int):=by omega
 go_enter Try.func68,Try.ntmps68
 go_wp2_with fail
 refine (known_vals_any A c l _ hl (hr.gr (Gr.alloc (Gr.refl _) _))).mono ?_;rintro e w1 ⟨A',c',rfl,hrv,hg⟩
 obtain ⟨hc,hf⟩:=hg.cells
 have z0:w.heap.size<w1.heap.size:=by have:=hg.size;simp at this;omega
 have q0:w1.cell? ⟨w.heap.size,0,none⟩=some (.bool false):=by go_simp
 have q1:w1.cell? ⟨w.heap.size,1,none⟩=some (.int .i64 0):=by go_simp
 have f0:w1.frozen? ⟨w.heap.size,0,none⟩=false:=by go_simp
 have f1:w1.frozen? ⟨w.heap.size,1,none⟩=false:=by go_simp
 have hgw:Gr w w1:=gq
 clear hc hf hg
 rw[hK] at hrv ⊢
 have HK:=Lib.hid hK;clear hK
 obtain ⟨ad,hAd,hb,hx0,hx1⟩:=hrv.at h0
 subst hAd
 rw[Nat.zero_mul] at hx0 hx1
 have ha0:ad.add 0=ad:=rfl
 rw[ha0] at hx0 hx1
 rw[hx] at hx0 hx1
 have HX:=Lib.hid hx;clear hx
 go_wp2
 go_loopw [59] (fun i wr=>∃(k:Nat) (b:Vl),k≤K.length∧i= .int .i64 k∧Gr w1 wr∧w1.heap.size<wr.heap.size∧
   wr.cell? ⟨w1.heap.size,0,none⟩=some (.bool b.ok)∧wr.cell? ⟨w1.heap.size,1,none⟩=some (.int .i64 b.n)∧
   wr.frozen? ⟨w1.heap.size,0,none⟩=false∧wr.frozen? ⟨w1.heap.size,1,none⟩=false∧b=minV x (K.take k))
  (fun i _=>K.length-(intOf i).toNat)
 case atStart=>exact ⟨0,x,Nat.zero_le _,rfl,gq,by simp,by go_simp,by go_simp,by go_simp,by go_simp,rfl⟩
 case round=>
  obtain ⟨k,b,hk,rfl,hgr,hzr,a0,a1,af0,af1,hbm⟩:=hrel
  by_cases hlt:k<K.length
  ·
   obtain ⟨ad',hAd,hb',hy0,hy1⟩:=(hrv.gr hgr).at hlt
   obtain rfl:ad=ad':=by injection hAd
   have Ht:=min_take (x:=x) hlt
   rw[←hbm] at Ht
   clear hbm hAd
   cases hlb:lessB K[k] b
   ·
    rw[hlb] at Ht
    have HT:=Lib.hid Ht;clear Ht
    go_wp2_with fail
    refine (less_any K[k] b _).mono ?_;rintro e w2 ⟨rfl,hg2⟩;obtain ⟨hc2,hf2⟩:=hg2.cells;have hz2:=hg2.size;(try simp at hz2)
    have y2:w1.heap.size<w2.heap.size:=(by omega)
    have y3:w1.heap.size<wr.heap.size+1:=(by omega)
    go_wp2
    go_roundw
    case rel=>exact ⟨k+1,b,by omega,by go_num,gq,by omega,by go_simp,by go_simp,by go_simp,by go_simp,HT.out.symm⟩
    case measure=>simp[intOf];omega
   ·
    rw[hlb] at Ht
    have HT:=Lib.hid Ht;clear Ht
    go_wp2_with fail
    refine (less_any K[k] b _).mono ?_;rintro e w2 ⟨rfl,hg2⟩;obtain ⟨hc2,hf2⟩:=hg2.cells;have hz2:=hg2.size;(try simp at hz2)
    have y2:w1.heap.size<w2.heap.size:=(by omega)
    have y3:w1.heap.size<wr.heap.size+1:=(by omega)
    go_wp2
    go_roundw
    case rel=>exact ⟨k+1,K[k],by omega,by go_num,gq,by simp;omega,by go_simp,by go_simp,by go_simp,by go_simp,HT.out.symm⟩
    case measure=>simp[intOf];omega
  ·
   have hkk:k=K.length:=by omega
   subst hkk
   rw[List.take_length] at hbm
   subst hbm
   have x0:=(hgr.cell (p:=⟨w.heap.size,0,none⟩) z0).trans q0
   have x1:=(hgr.cell (p:=⟨w.heap.size,1,none⟩) z0).trans q1
   have y0:=(hgr.frozen (p:=⟨w.heap.size,0,none⟩) z0).trans f0
   have y1:=(hgr.frozen (p:=⟨w.heap.size,1,none⟩) z0).trans f1
   go_wp2
   exact bodyPost_ret (v:= .agg #[.bool (minV x K).ok, .int .i64 (minV x K).n]) (by simp[results,Try.results68,go_sem, *]) rfl ⟨rfl,gq⟩
theorem of_other (kind:Int) (e1:(kind==1)=false) (e2:(kind==2)=false) (e3:(kind==3)=false) (e4:(kind==4)=false) (e5:(kind==5)=false) (A:Option Addr) (c:Nat) (l:List Vl) (w:World) (hl:l.length≤1000000) (hr:Rv w A l) (K:List Vl) (hK:kn l=K) (h0:0<K.length) :
  Calls Try.prog 68 #[.int .i64 kind, .slice A l.length c] w fun e w'=>e= .returned (.agg #[.bool (⟨false,0⟩:Vl).ok, .int .i64 (⟨false,0⟩:Vl).n])∧Gr w w':=by
 have hlen:K.length≤1000000:=by rw[←hK];exact Nat.le_trans (kn_len l) hl
 obtain ⟨hn,hn'⟩:=len_facts h0
 have hlK:(K.length:Int)≤1000000:=by omega
 have hpK:(0:Int)<(K.length:Int):=by omega
 go_enter Try.func68,Try.ntmps68
 go_wp2_with fail
 refine (known_vals_any A c l _ hl (hr.gr (Gr.alloc (Gr.refl _) _))).mono ?_;rintro e w1 ⟨A',c',rfl,hrv,hg⟩
 obtain ⟨hc,hf⟩:=hg.cells
 have z0:w.heap.size<w1.heap.size:=by have:=hg.size;simp at this;omega
 have q0:w1.cell? ⟨w.heap.size,0,none⟩=some (.bool false):=by go_simp
 have q1:w1.cell? ⟨w.heap.size,1,none⟩=some (.int .i64 0):=by go_simp
 have f0:w1.frozen? ⟨w.heap.size,0,none⟩=false:=by go_simp
 have f1:w1.frozen? ⟨w.heap.size,1,none⟩=false:=by go_simp
 have hgw:Gr w w1:=gq
 clear hc hf hg
 rw[hK] at hrv ⊢
 have HK:=Lib.hid hK;clear hK
 obtain ⟨ad,hAd,hb,hx0,hx1⟩:=hrv.at h0
 subst hAd
 rw[Nat.zero_mul] at hx0 hx1
 have ha0:ad.add 0=ad:=rfl
 rw[ha0] at hx0 hx1
 go_wp2
 exact bodyPost_ret (v:= .agg #[.bool false, .int .i64 0]) (by simp[results,Try.results68,go_sem, *]) rfl ⟨rfl,gq⟩
theorem agg_of_any (kind:Int) (A:Option Addr) (c:Nat) (l:List Vl) (w:World) (hl:l.length≤1000000) (hr:Rv w A l) :
  Calls Try.prog 68 #[.int .i64 kind, .slice A l.length c] w fun e w'=>e= .returned (.agg #[.bool (aggV kind l).ok, .int .i64 (aggV kind l).n])∧Gr w w':=by
 by_cases h0:0<(kn l).length
 ·
  by_cases k2:kind=2
  ·
   subst k2
   have hv:aggV 2 l=addV (kn l):=by simp[aggV,ofK,h0]
   rw[hv];exact of_sum A c l w hl hr _ rfl h0
  by_cases k1:kind=1
  ·
   subst k1
   have hv:aggV 1 l=divV (addV (kn l)) (intV ((kn l).length:Nat)):=by simp[aggV,ofK,h0]
   rw[hv];exact of_avg A c l w hl hr _ rfl h0
  by_cases k3:kind=3
  ·
   subst k3
   have hv:aggV 3 l=(kn l)[(kn l).length-1]:=by simp[aggV,ofK,h0]
   rw[hv];exact of_last A c l w hl hr _ rfl h0
  by_cases k4:kind=4
  ·
   subst k4
   have hv:aggV 4 l=maxV (kn l)[0] (kn l):=by simp[aggV,ofK,h0]
   rw[hv];exact of_max A c l w hl hr _ rfl h0
  by_cases k5:kind=5
  ·
   subst k5
   have hv:aggV 5 l=minV (kn l)[0] (kn l):=by simp[aggV,ofK,h0]
   rw[hv];exact of_min A c l w hl hr _ rfl h0
  have hv:aggV kind l=⟨false,0⟩:=by simp[aggV,ofK,h0,k1,k2,k3,k4,k5]
  rw[hv];exact of_other kind (beq_eq_false_iff_ne.2 k1) (beq_eq_false_iff_ne.2 k2) (beq_eq_false_iff_ne.2 k3) (beq_eq_false_iff_ne.2 k4) (beq_eq_false_iff_ne.2 k5) A c l w hl hr _ rfl h0
 ·
  have hv:aggV kind l=⟨false,0⟩:=by simp[aggV,ofK,h0]
  rw[hv];exact of_nil kind A c l w hl hr (by omega)
def heldI (n:Int):Int:=max 0 (min n 16777216)
theorem heldI_lo (n:Int):0≤heldI n:=by unfold heldI;omega
theorem heldI_hi (n:Int):heldI n≤16777216:=by unfold heldI;omega
def enX (x k a:Int):Bool:=decide (0<k)&&decide (k≤a)&&decide (x*a≤k*1000000)
def enB (xff k a:Int):Bool:=enX (heldI xff) (heldI k) (heldI a)
def putV (kind xff:Int) (l:List Vl):Vl:=bif enB xff (kn l).length l.length then aggV kind l else ⟨false,0⟩
theorem mul_lo {x a:Int} (h:0≤x) (h':0≤a):0≤x*a:=Int.mul_nonneg h h'
theorem mul_hi {x a:Int} (_h:0≤x) (h':0≤a) (hx:x≤16777216) (ha:a≤16777216):x*a≤281474976710656:=by
 have h1:x*a≤16777216*a:=Int.mul_le_mul_of_nonneg_right hx h'
 omega
theorem held_any (n:Int) (w:World) :
  Calls Try.prog 71 #[.int .i64 n] w fun e w'=>e= .returned (.int .i64 (heldI n))∧Gr w w':=by
 go_enter Try.func71,Try.ntmps71
 go_wp2
 go_ret
 exact ⟨rfl,Gr.refl _⟩
theorem enough_any (xff k a:Int) (w:World) :
  Calls Try.prog 66 #[.int .i64 xff, .int .i64 k, .int .i64 a] w fun e w'=>e= .returned (.bool (enB xff k a))∧Gr w w':=by
 obtain ⟨X,hX⟩:∃X,heldI xff=X:=⟨_,rfl⟩
 obtain ⟨Y,hY⟩:∃Y,heldI k=Y:=⟨_,rfl⟩
 obtain ⟨Z,hZ⟩:∃Z,heldI a=Z:=⟨_,rfl⟩
 have X0:=heldI_lo xff
 have X1:=heldI_hi xff
 have Y0:=heldI_lo k
 have Y1:=heldI_hi k
 have Z0:=heldI_lo a
 have Z1:=heldI_hi a
 rw[hX] at X0 X1
 rw[hY] at Y0 Y1
 rw[hZ] at Z0 Z1
 have m0:=mul_lo X0 Z0
 have m1:=mul_hi X0 Z0 X1 Z1
 have hE:enB xff k a=enX X Y Z:=by unfold enB;rw[hX,hY,hZ]
 rw[hE];clear hE
 by_cases h1:0<Y
 ·
  by_cases h2:Y≤Z
  ·
   have hv:enX X Y Z=decide (X*Z≤Y*1000000):=by simp[enX,h1,h2]
   rw[hv];clear hv
   go_enter Try.func66,Try.ntmps66
   go_wp2_with fail
   refine (held_any xff _).mono ?_;rintro e w1 ⟨rfl,hg1⟩
   rw[hX]
   go_wp2_with fail
   refine (held_any k _).mono ?_;rintro e w2 ⟨rfl,hg2⟩
   rw[hY]
   go_wp2_with fail
   refine (held_any a _).mono ?_;rintro e w3 ⟨rfl,hg3⟩
   rw[hZ]
   have hgw:Gr w w3:=Gr.trans hg1 (Gr.trans hg2 hg3)
   clear hg1 hg2 hg3
   have HX:=Lib.hid hX;clear hX
   have HY:=Lib.hid hY;clear hY
   have HZ:=Lib.hid hZ;clear hZ
   go_wp2
   go_ret
   exact ⟨rfl,hgw⟩
  ·
   have hv:enX X Y Z=false:=by simp[enX,h1,h2]
   rw[hv];clear hv
   go_enter Try.func66,Try.ntmps66
   go_wp2_with fail
   refine (held_any xff _).mono ?_;rintro e w1 ⟨rfl,hg1⟩
   rw[hX]
   go_wp2_with fail
   refine (held_any k _).mono ?_;rintro e w2 ⟨rfl,hg2⟩
   rw[hY]
   go_wp2_with fail
   refine (held_any a _).mono ?_;rintro e w3 ⟨rfl,hg3⟩
   rw[hZ]
   have hgw:Gr w w3:=Gr.trans hg1 (Gr.trans hg2 hg3)
   clear hg1 hg2 hg3
   have HX:=Lib.hid hX;clear hX
   have HY:=Lib.hid hY;clear hY
   have HZ:=Lib.hid hZ;clear hZ
   go_wp2
   go_ret
   exact ⟨rfl,hgw⟩
 ·
  have hv:enX X Y Z=false:=by simp[enX,h1]
  rw[hv];clear hv
  go_enter Try.func66,Try.ntmps66
  go_wp2_with fail
  refine (held_any xff _).mono ?_;rintro e w1 ⟨rfl,hg1⟩
  rw[hX]
  go_wp2_with fail
  refine (held_any k _).mono ?_;rintro e w2 ⟨rfl,hg2⟩
  rw[hY]
  go_wp2_with fail
  refine (held_any a _).mono ?_;rintro e w3 ⟨rfl,hg3⟩
  rw[hZ]
  have hgw:Gr w w3:=Gr.trans hg1 (Gr.trans hg2 hg3)
  clear hg1 hg2 hg3
  have HX:=Lib.hid hX;clear hX
  have HY:=Lib.hid hY;clear hY
  have HZ:=Lib.hid hZ;clear hZ
  go_wp2
  go_ret
  exact ⟨rfl,hgw⟩
theorem put_any (kind xff:Int) (A:Option Addr) (c:Nat) (l:List Vl) (w:World) (hl:l.length≤1000000) (hr:Rv w A l) :
  Calls Try.prog 62 #[.int .i64 kind, .int .i64 xff, .slice A l.length c] w fun e w'=>e= .returned (.agg #[.bool (putV kind xff l).ok, .int .i64 (putV kind xff l).n])∧Gr w w':=by
 cases hen:enB xff (kn l).length l.length
 ·
  have hv:putV kind xff l=⟨false,0⟩:=by simp[putV,hen]
  rw[hv];clear hv
  go_enter Try.func62,Try.ntmps62
  go_wp2_with fail
  refine (known_vals_any A c l _ hl (hr.gr (Gr.alloc (Gr.refl _) _))).mono ?_;rintro e w1 ⟨A',c',rfl,hrv,hg⟩
  have hl':=hrv.1
  obtain ⟨hc,hf⟩:=hg.cells
  have z0:w.heap.size<w1.heap.size:=by have:=hg.size;simp at this;omega
  have q0:w1.cell? ⟨w.heap.size,0,none⟩=some (.bool false):=by go_simp
  have q1:w1.cell? ⟨w.heap.size,1,none⟩=some (.int .i64 0):=by go_simp
  have f0:w1.frozen? ⟨w.heap.size,0,none⟩=false:=by go_simp
  have f1:w1.frozen? ⟨w.heap.size,1,none⟩=false:=by go_simp
  have hgw:Gr w w1:=gq
  clear hc hf hg hl'
  go_wp2_with fail
  refine (enough_any xff (kn l).length l.length _).mono ?_;rintro e w2 ⟨rfl,hg2⟩
  rw[hen]
  have HEN:=Lib.hid hen;clear hen
  have hga:Gr w w2:=Gr.trans hgw hg2
  have x0:=(hg2.cell (p:=⟨w.heap.size,0,none⟩) z0).trans q0
  have x1:=(hg2.cell (p:=⟨w.heap.size,1,none⟩) z0).trans q1
  have y0:=(hg2.frozen (p:=⟨w.heap.size,0,none⟩) z0).trans f0
  have y1:=(hg2.frozen (p:=⟨w.heap.size,1,none⟩) z0).trans f1
  have z1:=Nat.lt_of_lt_of_le z0 hg2.size
  go_wp2
  exact bodyPost_ret (v:= .agg #[.bool false, .int .i64 0]) (by simp[results,Try.results62,go_sem, *]) rfl ⟨rfl,gq⟩
 ·
  have hv:putV kind xff l=aggV kind l:=by simp[putV,hen]
  rw[hv];clear hv
  go_enter Try.func62,Try.ntmps62
  go_wp2_with fail
  refine (known_vals_any A c l _ hl (hr.gr (Gr.alloc (Gr.refl _) _))).mono ?_;rintro e w1 ⟨A',c',rfl,hrv,hg⟩
  have hl':=hrv.1
  obtain ⟨hc,hf⟩:=hg.cells
  have z0:w.heap.size<w1.heap.size:=by have:=hg.size;simp at this;omega
  have q0:w1.cell? ⟨w.heap.size,0,none⟩=some (.bool false):=by go_simp
  have q1:w1.cell? ⟨w.heap.size,1,none⟩=some (.int .i64 0):=by go_simp
  have f0:w1.frozen? ⟨w.heap.size,0,none⟩=false:=by go_simp
  have f1:w1.frozen? ⟨w.heap.size,1,none⟩=false:=by go_simp
  have hgw:Gr w w1:=gq
  clear hc hf hg hl'
  go_wp2_with fail
  refine (enough_any xff (kn l).length l.length _).mono ?_;rintro e w2 ⟨rfl,hg2⟩
  rw[hen]
  have HEN:=Lib.hid hen;clear hen
  have hga:Gr w w2:=Gr.trans hgw hg2
  go_wp2_with fail
  refine (agg_of_any kind A c l _ hl (hr.gr hga)).mono ?_;rintro e w3 ⟨rfl,hg3⟩
  have hgb:Gr w1 w3:=Gr.trans hg2 hg3
  have hgc:Gr w w3:=Gr.trans hga hg3
  have x0:=(hgb.cell (p:=⟨w.heap.size,0,none⟩) z0).trans q0
  have x1:=(hgb.cell (p:=⟨w.heap.size,1,none⟩) z0).trans q1
  have y0:=(hgb.frozen (p:=⟨w.heap.size,0,none⟩) z0).trans f0
  have y1:=(hgb.frozen (p:=⟨w.heap.size,1,none⟩) z0).trans f1
  have z1:=Nat.lt_of_lt_of_le z0 hgb.size
  go_wp2
  exact bodyPost_ret (v:= .agg #[.bool (aggV kind l).ok, .int .i64 (aggV kind l).n]) (by simp[results,Try.results62,go_sem, *]) rfl ⟨rfl,gq⟩
abbrev Arcs:=List (Nat×Nat)
def stpS (m:Arcs) (i:Nat):Nat:=(m.getD i (0,0)).1
def cntS (m:Arcs) (i:Nat):Nat:=(m.getD i (0,0)).2
theorem stpS_at {m:Arcs} {i:Nat} (h:i<m.length):stpS m i=m[i].1:=by unfold stpS;rw[List.getD_eq_getElem?_getD,List.getElem?_eq_getElem h];rfl
theorem cntS_at {m:Arcs} {i:Nat} (h:i<m.length):cntS m i=m[i].2:=by unfold cntS;rw[List.getD_eq_getElem?_getD,List.getElem?_eq_getElem h];rfl
def atS (m:Arcs) (i:Nat) (t:Int):Nat:=offS m i+12*(placeS (stpS m i) (cntS m i) t).toNat
def slotS (D:List UInt8) (k:Nat):List UInt8:=(D.drop k).take 12
def seenS (m:Arcs) (D:List UInt8) (i:Nat) (t:Int):Vl:=if decT (slotS D (atS m i t))=t then ofV (decN (slotS D (atS m i t))) else ⟨false,0⟩
def hasV (m:Arcs) (D:List UInt8) (i:Nat) (t:Int):Vl:=if alignS t (stpS m i)<1 then ⟨false,0⟩ else seenS m D i (alignS t (stpS m i))
def layS (m:Arcs) (D:List UInt8) (i:Nat) (t n:Int):List UInt8:=putB D (atS m i t) (encP t n)
def reachB (a:Nat×Nat) (t now:Int):Bool:=decide (t≤now)&&decide (now-t<(a.1:Int)*a.2)
def firstS (m:Arcs) (t now:Int):Nat:=m.findIdx fun a=>reachB a t now
def gathL (m:Arcs) (D:List UInt8) (i:Nat) (t:Int):List Vl:=(List.range (stpS m i/stpS m (i-1))).map fun (k:Nat)=>hasV m D (i-1) (t+k*stpS m (i-1))
def gathV (ag xf:Int) (m:Arcs) (D:List UInt8) (i:Nat) (t:Int):Vl:=putV ag xf (gathL m D i (alignS t (stpS m i)))
def gathS (ag xf:Int) (m:Arcs) (D:List UInt8) (i:Nat) (t:Int):Option (List UInt8):=
 if (gathV ag xf m D i t).ok=true∧1≤alignS t (stpS m i) then some (layS m D i (alignS t (stpS m i)) (gathV ag xf m D i t).n) else none
def upS (ag xf:Int) (m:Arcs) (t:Int):Nat→Nat→List UInt8→List UInt8
 | _,0,D=>D
 | i,k+1,D=>match gathS ag xf m D i t with
  | none=>D
  | some D'=>upS ag xf m t (i+1) k D'
def laysS (ag xf:Int) (m:Arcs) (D:List UInt8) (t n now:Int):Option (List UInt8):=
 if t<1∨now<t∨(ofV n).ok=false then none
 else if firstS m t now=m.length then none
 else if alignS t (stpS m (firstS m t now))<1 then none
 else some (upS ag xf m t (firstS m t now+1) (m.length-(firstS m t now+1)) (layS m D (firstS m t now) (alignS t (stpS m (firstS m t now))) n))
def updS (ag xf:Int) (m:Arcs) (now:Int):List (Int×Int)→Nat×List UInt8→Nat×List UInt8
 | [],s=>s
 | p::r,s=>match laysS ag xf m s.2 p.1 p.2 now with
  | none=>updS ag xf m now r s
  | some D=>updS ag xf m now r (s.1+1,D)
theorem placeS_nat {m:Arcs} {i:Nat} (h:1≤cntS m i) (t:Int):(placeS (stpS m i) (cntS m i) t).toNat<cntS m i:=by
 have:=placeS_lt (t:=t) (step:=(stpS m i:Int)) (count:=(cntS m i:Int)) (by omega)
 omega
structure MayF (m:Arcs):Prop where
 l1:1≤m.length
 l8:m.length≤8
 sz:sizeS m≤1048576
 last:(lastS m).1*(lastS m).2≤4294967295
 s1:∀i,i<m.length→1≤stpS m i∧stpS m i≤16777216
 c1:∀i,i<m.length→1≤cntS m i∧cntS m i≤16777216
theorem MayF.of {m:Arcs} (h:mayS m=true):MayF m:=by
 obtain ⟨h1,h2,h3,h4,h5⟩:=mayS_facts h
 refine ⟨h1,h2,h3,h4,fun i hi=>?_,fun i hi=>?_⟩
 ·
  rw[stpS_at hi];exact ⟨(h5 i hi).1,(h5 i hi).2.1⟩
 ·
  rw[cntS_at hi];exact ⟨(h5 i hi).2.2.1,(h5 i hi).2.2.2⟩
theorem MayF.ofH {ag xf:Int} {m:Arcs} (h:mayH ag xf (ints m)=true):MayF m:= .of (by unfold mayH at h;rw[Bool.and_eq_true,nats_ints] at h;exact h.2)
theorem atS_in {m:Arcs} (h:MayF m) {i:Nat} (hi:i<m.length) (t:Int):16≤atS m i t∧atS m i t+12≤sizeS m:=by
 have h1:=placeS_nat (h.c1 i hi).1 t
 have h2:=offS_succ hi
 have h3:=offS_le (m:=m) (i:=i+1) (by omega)
 rw[cntS_at hi] at h1
 have h4:16≤offS m i:=by unfold offS;omega
 unfold atS
 rw[cntS_at hi]
 omega
theorem layS_len {m:Arcs} (h:MayF m) {D:List UInt8} (hD:D.length=sizeS m) {i:Nat} (hi:i<m.length) (t n:Int):(layS m D i t n).length=sizeS m:=by
 unfold layS
 rw[putB_len (by rw[encP_len,hD];exact (atS_in h hi t).2),hD]
theorem firstS_le (m:Arcs) (t now:Int):firstS m t now≤m.length:=List.findIdx_le_length
def whichS (m:Arcs) (d:Int):Nat:=(m.take (m.length-1)).findIdx fun a=>decide (d≤(a.1:Int)*a.2)
theorem whichS_lt {m:Arcs} (h:1≤m.length) (d:Int):whichS m d<m.length:=by
 have:whichS m d≤(m.take (m.length-1)).length:=List.findIdx_le_length
 rw[List.length_take] at this
 omega
def spanS (m:Arcs):Nat:=(lastS m).1*(lastS m).2
def frS (m:Arcs) (now frm:Int):Int:=max (max 0 frm) (now-spanS m)
def startS (m:Arcs) (i:Nat) (fr:Int):Int:=alignS (fr+stpS m i) (stpS m i)
def endS (m:Arcs) (i:Nat) (fr un:Int):Int:=max (alignS (un+stpS m i) (stpS m i)) (startS m i fr+stpS m i)
def valsS (m:Arcs) (D:List UInt8) (i:Nat) (start:Int) (k:Nat):List Vl:=(List.range k).map fun (j:Nat)=>hasV m D i (start+j*stpS m i)
section
open Go.RowKit Go.ChangeMaps Go.Maps
theorem info_chg:(Try.prog.info? 92).map (fun i=>(i.zero,i.size,i.bytes))=some (some (.agg #[.int .i64 0, .string ByteArray.empty, .int .i64 0, .slice none 0 0]),4,56):=by kernel_rfl
def DoS (F P B:Nat) (v k s a d:Value) (W:World):Prop:=W.cell? ⟨F,0,none⟩=some (.pointer (some ⟨P,0,none⟩))∧W.cell? ⟨P,0,none⟩=some v∧W.cell? ⟨B,0,none⟩=some k∧W.cell? ⟨B,1,none⟩=some s∧W.cell? ⟨B,2,none⟩=some a∧W.cell? ⟨B,3,none⟩=some d
theorem DoS.kp {F P B:Nat} {v k s a d:Value} {W W':World} {S:Nat→Prop} (h:DoS F P B v k s a d W) (q:Kp S W W') (lF:F<W.heap.size) (lP:P<W.heap.size) (lB:B<W.heap.size) (hF:¬S F) (hP:¬S P) (hB:¬S B):DoS F P B v k s a d W':=
 ⟨(q.cell (a:=⟨F,0,none⟩) lF hF).trans h.1,(q.cell (a:=⟨P,0,none⟩) lP hP).trans h.2.1,(q.cell (a:=⟨B,0,none⟩) lB hB).trans h.2.2.1,(q.cell (a:=⟨B,1,none⟩) lB hB).trans h.2.2.2.1,(q.cell (a:=⟨B,2,none⟩) lB hB).trans h.2.2.2.2.1,(q.cell (a:=⟨B,3,none⟩) lB hB).trans h.2.2.2.2.2⟩
theorem FsM.noted {w W5 w9:World} {Y:Nat→Prop} {F P M:Nat} {R:Option Nat} {room:Int} {n m:Nat} {D:Option (List UInt8)} (h:FsM Y w F P M R room n D) {v':Value} {ys:List Value} (g5:Gr w W5) (hgr:W5.grownBy w9 R) (own9:w9.ownsRow 0 92 4 v' m ys) (hat:v'.ownBlock=R∨v'.ownBlock=some W5.heap.size) :
  FsM Y (w9.setCell ⟨P,0,none⟩ v') F P M v'.ownBlock room m D∧Kp (fun k=>k=P∨R=some k) w (w9.setCell ⟨P,0,none⟩ v')∧(∀k,v'.ownBlock=some k→R=some k∨w.heap.size≤k):=by
 have k:Kp (fun k=>k=P∨R=some k) w (w9.setCell ⟨P,0,none⟩ v'):=((Kp.of_gr (fun k=>k=P∨R=some k) g5).grown hgr (fun i hi=> .inl (.inr hi))).set (p:=⟨P,0,none⟩) (.inl (.inl rfl)) _
 have hfr:∀i,v'.ownBlock=some i→R=some i∨w.heap.size≤i:=fun i hi=>by
  rcases hat with e|e
  ·
   exact .inl (e▸hi)
  ·
   rw[e] at hi;injection hi with hi;exact .inr (by rw[←hi];exact g5.size)
 have hnF:¬(F=P∨R=some F):=fun e=>by
  rcases e with e|e
  ·
   exact h.nfp e
  ·
   exact (h.rr F e).1 rfl
 have hnM:¬(M=P∨R=some M):=fun e=>by
  rcases e with e|e
  ·
   exact h.npm e.symm
  ·
   exact (h.rr M e).2.2 rfl
 have k9:Kp (fun k=>R=some k) w w9:=(Kp.of_gr (fun k=>R=some k) g5).grown hgr (fun i hi=> .inl hi)
 have hnP:¬R=some P:=fun e=>(h.rr P e).2.1 rfl
 obtain ⟨v,xs,v1,v2,v3⟩:=h.p0
 obtain ⟨y,hy⟩:=h.p1
 have q0:(w9.setCell ⟨P,0,none⟩ v').cell? ⟨P,0,none⟩=some v':=World.cell?_setCell_same' _ _ _ (by rw[k9.cell (a:=⟨P,0,none⟩) h.lp hnP,v1];rfl)
 have q1:(w9.setCell ⟨P,0,none⟩ v').cell? ⟨P,1,none⟩=some y:=(World.cell?_setCell_other _ ⟨P,0,none⟩ ⟨P,1,none⟩ _ (by first|(simp;done)|(simp;omega))).trans ((k9.cell (a:=⟨P,1,none⟩) h.lp hnP).trans hy)
 have kS:Kp (fun k=>k=P) w9 (w9.setCell ⟨P,0,none⟩ v'):=(Kp.refl (fun k=>k=P) _).set (p:=⟨P,0,none⟩) (.inl (show P=P from rfl)) _
 have hoP:∀i,v'.ownBlock=some i→i≠F∧i≠P∧i≠M:=fun i hi=>by
  rcases hfr i hi with e|e
  ·
   exact h.rr i e
  ·
   have:=h.lf;have:=h.lp;have:=h.lm
   exact ⟨fun e=>by omega,fun e=>by omega,fun e=>by omega⟩
 refine ⟨⟨Nat.lt_of_lt_of_le h.lf k.size,Nat.lt_of_lt_of_le h.lp k.size,Nat.lt_of_lt_of_le h.lm k.size,h.nfp,h.nfm,h.npm,(k.cell (a:=⟨F,0,none⟩) h.lf hnF).trans h.f0,(k.cell (a:=⟨F,1,none⟩) h.lf hnF).trans h.f1,(k.cell (a:=⟨F,2,none⟩) h.lf hnF).trans h.f2,
  ⟨v',ys,q0,rfl,kS.own own9 (fun i hi=>(hoP i hi).2.1)⟩,⟨y,q1⟩,by rw[World.frozen?_setCell];exact (k9.frozen (a:=⟨P,0,none⟩) h.lp hnP).trans h.z0,by rw[World.frozen?_setCell];exact (k9.frozen (a:=⟨P,1,none⟩) h.lp hnP).trans h.z1,hoP,fun i hi=>Nat.lt_of_lt_of_le (h.yl i hi) k.size,?_⟩,k,hfr⟩
 cases D with
 | none=>
  obtain ⟨clk,hb⟩:=h.mp
  exact ⟨clk,(k.block M h.lm hnM).trans hb⟩
 | some l=>
  obtain ⟨clk,born,g,c,hb,hc,hr,hg,hq⟩:=h.mp
  refine ⟨clk,born,g,c,(k.block M h.lm hnM).trans hb,hc,k.rd hr (fun _ ad e=>by injection e with e;rw[←e];exact fun e=>by rcases e with e|e;exact hq.1 e;exact hq.2.2.1 e),Nat.lt_of_lt_of_le hg k.size,hq.1,hq.2.1,fun e=>?_,hq.2.2.2⟩
  rcases hfr g e with e|e
  ·
   exact hq.2.2.1 e
  ·
   omega
theorem does_any {Y:Nat→Prop} {F P M:Nat} {R:Option Nat} {room:Int} {n:Nat} {D D':Option (List UInt8)} (kd at_:Int) (gd ld dd:Nat) (hn:n≤1000000) (w:World) (h:FsM Y w F P M R room n D)
  (hap:∀W,Gr w W→Calls Try.prog 51 #[.pointer (some ⟨F,0,none⟩), .agg #[.int .i64 kd, .string nmA, .int .i64 at_, .slice (some ⟨gd,0,none⟩) ld dd]] W fun e w'=>e= .returned (.tuple #[])∧FsM Y w' F P M R room n D'∧Kp (fun k=>k=M) W w') :
  Calls Try.prog 38 #[.pointer (some ⟨F,0,none⟩), .agg #[.int .i64 kd, .string nmA, .int .i64 at_, .slice (some ⟨gd,0,none⟩) ld dd]] w fun e w'=>e= .returned (.tuple #[])∧∃R',FsM Y w' F P M R' room (n+1) D'∧Kp (Tch P M R) w w'∧∀i,R'=some i→R=some i∨w.heap.size≤i:=by
 obtain ⟨i0,hi0,hy0,hy1,hy2⟩:=info_parts info_chg
 obtain ⟨V,hV⟩:∃V,V=w.alloc (.cells #[.int .i64 kd, .string nmA, .int .i64 at_, .slice (some ⟨gd,0,none⟩) ld dd] 92):=⟨_,rfl⟩
 have gV:Gr w V:=by rw[hV];exact Gr.alloc (Gr.refl w) _
 have hz:w.heap.size<V.heap.size:=by rw[hV];simp
 have c0:V.cell? ⟨w.heap.size,0,none⟩=some (.int .i64 kd):=by rw[hV];go_simp
 have c1:V.cell? ⟨w.heap.size,1,none⟩=some (.string nmA):=by rw[hV];go_simp
 have c2:V.cell? ⟨w.heap.size,2,none⟩=some (.int .i64 at_):=by rw[hV];go_simp
 have c3:V.cell? ⟨w.heap.size,3,none⟩=some (.slice (some ⟨gd,0,none⟩) ld dd):=by rw[hV];go_simp
 have HA:=Lib.hid (hap V gV)
 have H0:=Lib.hid h
 have HV:=Lib.hid hV
 have HG:=Lib.hid gV
 have hRs:Hid (∀i,R=some i→i<w.heap.size):=Lib.hid fun i e=>by
  obtain ⟨v,xs,v1,v2,v3⟩:=h.p0
  exact (v3.lt i (by rw[v2];exact e)).2
 clear hV gV h hap
 go_enter Try.func38,Try.ntmps38
 go_upto_region 1 with (fail)
 rw[←HV.out]
 clear HV
 go_upto_region 2 with (go_at_call 51;refine HA.out.mono ?_;rintro e w1 ⟨rfl,hF1,k1⟩;have d0:=(k1.cell (a:=⟨w.heap.size,0,none⟩) hz (fun e=>by have:=H0.out.lm;simp only at e;omega)).trans c0;have d1:=(k1.cell (a:=⟨w.heap.size,1,none⟩) hz (fun e=>by have:=H0.out.lm;simp only at e;omega)).trans c1;have d2:=(k1.cell (a:=⟨w.heap.size,2,none⟩) hz (fun e=>by have:=H0.out.lm;simp only at e;omega)).trans c2;have d3:=(k1.cell (a:=⟨w.heap.size,3,none⟩) hz (fun e=>by have:=H0.out.lm;simp only at e;omega)).trans c3;have HF1:=Lib.hid hF1;have K1:=Lib.hid k1;have hz1:=Nat.lt_of_lt_of_le hz k1.size;clear hF1 k1)
 clear c0 c1 c2 c3
 obtain ⟨v,xs,v1,v2,v3⟩:=HF1.out.p0
 obtain ⟨A0,cp0,hv⟩:=own_form v3
 subst hv
 have HV3:=Lib.hid (And.intro v2 v3)
 have hw1:DoS F P w.heap.size (.slice A0 n cp0) (.int .i64 kd) (.string nmA) (.int .i64 at_) (.slice (some ⟨gd,0,none⟩) ld dd) w1:=⟨HF1.out.f0,v1,d0,d1,d2,d3⟩
 refine wp_region_Z 16 (DoS F P w.heap.size (.slice A0 n cp0) (.int .i64 kd) (.string nmA) (.int .i64 at_) (.slice (some ⟨gd,0,none⟩) ld dd)) (by kernel_rfl) ?_
 have hS0:DoS F P w.heap.size (.slice A0 n cp0) (.int .i64 kd) (.string nmA) (.int .i64 at_) (.slice (some ⟨gd,0,none⟩) ld dd) w1.drew:=hw1
 have g0:Gr w1 w1.drew:=Gr.drew (Gr.refl _)
 obtain ⟨W0,hW0⟩:∃W0,W0=w1.drew:=⟨_,rfl⟩
 rw[←hW0] at hS0 g0 ⊢
 clear hW0 hw1 d0 d1 d2 d3 v1 v2 v3
 refine zu 0 rfl hS0 (fun W hS=>by go_simp;rfl) ?_
 refine zu 1 rfl hS0 (fun W hS=>by go_simp;rfl) ?_
 refine zu 2 rfl hS0 (fun W hS=>by go_simp;rfl) ?_
 refine zu 3 rfl hS0 (fun W hS=>by have s0:=hS.1;go_simp;rfl) ?_
 refine zu 4 rfl hS0 (fun W hS=>by go_simp;rfl) ?_
 refine zu 5 rfl hS0 (fun W hS=>by go_simp;rfl) ?_
 refine zu 6 rfl hS0 (fun W hS=>by go_simp;rfl) ?_
 refine zu 7 rfl hS0 (fun W hS=>by have s0:=hS.1;go_simp;rfl) ?_
 refine zu 8 rfl hS0 (fun W hS=>by go_simp;rfl) ?_
 refine zu 9 rfl hS0 (fun W hS=>by go_simp;rfl) ?_
 refine zu 10 rfl hS0 (fun W hS=>by have s1:=hS.2.1;go_simp;rfl) ?_
 refine zu 11 rfl hS0 (fun W hS=>by have s2:=hS.2.2.1;have s3:=hS.2.2.2.1;have s4:=hS.2.2.2.2.1;have s5:=hS.2.2.2.2.2;go_simp;rfl) ?_
 refine wpAnyZ_ready (rs:=[12]) (by kernel_rfl) (by simp) ?_
 refine AllReadyZ.cons (i:=12) rfl (by kernel_rfl) ?zx1 AllReadyZ.nil
 intro K hK
 simp only[List.getElem_toArray,List.getElem_cons_succ,List.getElem_cons_zero]
 have hrx:Rd (W0.alloc (.cells #[.int .i64 kd, .string nmA, .int .i64 at_, .slice (some ⟨gd,0,none⟩) ld dd] 92)) 4 (some ⟨W0.heap.size,0,none⟩) 1 [.int .i64 kd, .string nmA, .int .i64 at_, .slice (some ⟨gd,0,none⟩) ld dd]:=Rd.newU (W:=W0) rfl 92 [.int .i64 kd, .string nmA, .int .i64 at_, .slice (some ⟨gd,0,none⟩) ld dd] rfl
 have g5:Gr W0 (W0.alloc (.cells #[.int .i64 kd, .string nmA, .int .i64 at_, .slice (some ⟨gd,0,none⟩) ld dd] 92)):=Gr.alloc (Gr.refl _) _
 have lz:w.heap.size<W0.heap.size:=Nat.lt_of_lt_of_le hz1 g0.size
 have lf:=Nat.lt_of_lt_of_le HF1.out.lf g0.size
 have lp:=Nat.lt_of_lt_of_le HF1.out.lp g0.size
 go_simp
 refine hK.out _ _ (fun hnz=>?zs2) (fun _=>?zr3)
 case zs2=>exact hS0.kp (Kp.of_gr (fun _=>False) g5) lf lp lz (fun h=>h) (fun h=>h) (fun h=>h)
 clear hK K
 try (simp only[Pu,List.getElem_toArray,List.getElem_cons_succ,List.getElem_cons_zero])
 obtain ⟨W5,hW5⟩:∃W5,W5=W0.alloc (.cells #[.int .i64 kd, .string nmA, .int .i64 at_, .slice (some ⟨gd,0,none⟩) ld dd] 92):=⟨_,rfl⟩
 rw[←hW5] at hrx g5 ⊢
 clear hW5
 have hS5:=hS0.kp (Kp.of_gr (fun _=>False) g5) lf lp lz (fun h=>h) (fun h=>h) (fun h=>h)
 have o5:=own_grU (own_grU HV3.out.2 g0) g5
 refine wpAnyZ_ready (rs:=[13]) (by kernel_rfl) (by simp) ?_
 refine AllReadyZ.cons (i:=13) rfl (by kernel_rfl) ?zx4 AllReadyZ.nil
 intro K hK
 simp only[List.getElem_toArray,List.getElem_cons_succ,List.getElem_cons_zero]
 refine wp_append_rd0 (.tmp 17) (.tmp 19) 61 rfl 0 92 i0 _ 4 56 Try.underlying61 hi0 hy0 hy1 hy2 rfl (by decide) _ n _ rfl o5 (some ⟨W0.heap.size,0,none⟩) 1 _ [.int .i64 kd, .string nmA, .int .i64 at_, .slice (some ⟨gd,0,none⟩) ld dd] rfl hrx (by intro u hu;simp at hu;rcases hu with rfl|rfl|rfl|rfl<;>rfl) (by unfold maxLen;omega) (by omega) (by omega) ?_
 intro v' w9 own9 hgr9 hob9
 have hnt:=HF1.out.noted (g0.trans g5) (by rw[←HV3.out.1];exact hgr9) own9 (by rw[←HV3.out.1];exact hob9)
 have hown:∀i,(Value.slice A0 n cp0).ownBlock=some i→i<w.heap.size:=fun i e=>hRs.out i (by rw[←HV3.out.1];exact e)
 have hS9:DoS F P w.heap.size (.slice A0 n cp0) (.int .i64 kd) (.string nmA) (.int .i64 at_) (.slice (some ⟨gd,0,none⟩) ld dd) w9:=
  hS5.kp ((Kp.refl (fun q=>(Value.slice A0 n cp0).ownBlock=some q) _).grown hgr9 (fun q hq=> .inl hq)) (Nat.lt_of_lt_of_le lf g5.size) (Nat.lt_of_lt_of_le lp g5.size) (Nat.lt_of_lt_of_le lz g5.size) (fun e=>(HF1.out.rr F (by rw[←HV3.out.1];exact e)).1 rfl) (fun e=>(HF1.out.rr P (by rw[←HV3.out.1];exact e)).2.1 rfl) (fun e=>by have:=hown _ e;omega)
 have z9:w9.frozen? ⟨P,0,none⟩=false:=by
  have k9:Kp (fun q=>(Value.slice A0 n cp0).ownBlock=some q) w1 w9:=(Kp.of_gr _ (g0.trans g5)).grown hgr9 (fun q hq=> .inl hq)
  exact (k9.frozen (a:=⟨P,0,none⟩) HF1.out.lp (fun e=>(HF1.out.rr P (by rw[←HV3.out.1];exact e)).2.1 rfl)).trans HF1.out.z0
 obtain ⟨A9,c9,hv9⟩:=own_form own9
 subst hv9
 have HN:=Lib.hid hnt
 clear hnt own9 hgr9 hob9 o5 hrx hS5 hS0 hown g5
 refine hK.out _ _ (fun hnz=>?zs5) (fun _=>?zr6)
 case zs5=>exact hS9
 clear hK K
 try (simp only[Pu,List.getElem_toArray,List.getElem_cons_succ,List.getElem_cons_zero])
 refine zu 14 rfl hS9 (fun W hS=>by go_simp;rfl) ?_
 refine zu 15 rfl hS9 (fun W hS=>by go_simp;rfl) ?_
 refine wpAnyZ_ready (rs:=[16]) (by kernel_rfl) (by simp) ?_
 refine AllReadyZ.cons (i:=16) rfl (by kernel_rfl) ?zx7 AllReadyZ.nil
 intro K hK
 simp only[List.getElem_toArray,List.getElem_cons_succ,List.getElem_cons_zero]
 have s1:=hS9.2.1
 go_simp
 refine hK.out _ _ (fun hnz=>?zs8) (fun _=>?zr9)
 case zs8=>exact absurd rfl hnz
 clear hK K
 try (simp only[Pu,List.getElem_toArray,List.getElem_cons_succ,List.getElem_cons_zero])
 refine wpAnyZ_done (by kernel_rfl) ?_ _
 go_wp2
 go_end0
 refine ⟨rfl,_,HN.out.1,?_,fun i hi=>?_⟩
 ·
  refine (((Kp.of_gr (Tch P M R) HG.out).trans K1.out (fun i _ e=> .inr (.inl e))).trans HN.out.2.1 (fun i _ e=>?_))
  rcases e with e|e
  ·
   exact .inl e
  ·
   exact .inr (.inr e)
 ·
  rcases HN.out.2.2 i hi with e|e
  ·
   exact .inl e
  ·
   exact .inr (Nat.le_trans (Nat.le_trans HG.out.size K1.out.size) e)
end
theorem fresh_rb {B:Nat} {w':World} {v:Value} {l:List UInt8} (h:Lib.FreshBytes B w' v l) (h0:0<l.length):∃g cap,v= .slice (some ⟨g,0,none⟩) l.length cap∧B≤g∧l.length≤cap∧Rb w' (some ⟨g,0,none⟩) l:=by
 obtain ⟨g,cap,zs,rfl,hB,hc, -,hz,hzb,hb,hcell, -⟩:=h
 have hcl:∀i (hi:i<l.length),w'.cell? ⟨g,i,none⟩=some (.int .u8 (l[i].toNat:Int)):=fun i hi=>by
  have hzi:i<zs.length:=by omega
  have h1:=hcell i (by omega)
  have h2:=hzb zs[i] (List.getElem_mem hzi)
  have h3:l[i]?=some (UInt8.ofNat zs[i].toNat):=by
   rw[←hb,Lib.bytesOf,List.getElem?_map,List.getElem?_take_of_lt hi,List.getElem?_eq_getElem hzi]
   rfl
  rw[List.getElem?_eq_getElem hi] at h3
  injection h3 with h3
  rw[h1,h3,List.getD_eq_getElem?_getD,List.getElem?_eq_getElem hzi]
  have h4:zs[i].toNat<256:=by omega
  simp only[Option.getD_some,UInt8.toNat_ofNat']
  congr 2
  omega
 have hlt:g<w'.heap.size:=World.block_lt_of_cell? w' ⟨g,0,none⟩ (hcl 0 h0)
 refine ⟨g,cap,rfl,hB,hc,by rw[bys_length],fun _=>⟨_,rfl,hlt,fun j u hu=>?_⟩⟩
 have hj:j<l.length:=by
  have:=(List.getElem?_eq_some_iff.1 hu).1
  simpa [bys] using this
 rw[bys_at l j hj] at hu
 injection hu with hu
 rw[←hu,show (⟨g,0,none⟩:Addr).add j=⟨g,j,none⟩ by simp[Addr.add];omega]
 exact hcl j hj
def Pts (w:World) (b:Nat) (ls:List (List UInt8)):Prop:=∀k (h:k<ls.length),∃p c,w.cell? ⟨b,k,none⟩=some (.slice (some p) ls[k].length c)∧Rb w (some p) ls[k]
theorem Pts.gr {w w':World} {b:Nat} {ls:List (List UInt8)} (h:Pts w b ls) (g:Gr w w'):Pts w' b ls:=fun k hk=>by
 obtain ⟨p,c,h1,h2⟩:=h k hk
 exact ⟨p,c,(Below.cell g (p:=⟨b,k,none⟩) (World.block_lt_of_cell? w ⟨b,k,none⟩ h1)).trans h1,h2.gr g⟩
theorem join_nil:∀ls:List (List UInt8),Lib.join ls []=ls.flatten
 | []=>rfl
 | [a]=>by simp[Lib.join]
 | a::b::r=>by
  have:=join_nil (b::r)
  simp[Lib.join] at this ⊢
  rw[this]
theorem Rb.cells {w:World} {p:Addr} {l:List UInt8} (h:Rb w (some p) l) (i:Nat) (x:UInt8) (hx:l[i]?=some x):w.cell? (p.add i)=some (.int .u8 (x.toNat:Int)):=by
 obtain ⟨hi,rfl⟩:=List.getElem?_eq_some_iff.1 hx
 obtain ⟨ad,e, -,hc⟩:=h.2 (by omega)
 injection e with e
 subst e
 exact hc i _ (bys_at l i hi)
theorem join_one (b:Nat) (c:Nat) (l:List UInt8) (h0:0<l.length) (hl:l.length≤1073741824) (w:World) (h:Pts w b [l]):Calls Try.prog 39 #[.slice (some ⟨b,0,none⟩) 1 c, .slice none 0 0] w fun e w'=>∃g d,e= .returned (.slice (some ⟨g,0,none⟩) l.length d)∧w.heap.size≤g∧l.length≤d∧Rb w' (some ⟨g,0,none⟩) l∧Gr w w':=by
 obtain ⟨p,c0,h1,h2⟩:=h 0 (by simp)
 refine (Try.bytes_Join_one b 0 c p c0 l (.slice none 0 0) w h1 (fun i x hx=>h2.cells i x hx) h0 (by omega)).mono ?_
 rintro e w' ⟨v',rfl,hf,hg⟩
 obtain ⟨g,d,rfl,q1,q2,q3⟩:=fresh_rb hf h0
 exact ⟨g,d,rfl,q1,q2,q3,hg⟩
theorem join_two (b:Nat) (c:Nat) (l m:List UInt8) (h0:0<l.length) (hl:l.length+m.length≤1073741824) (hc:2≤c) (w:World) (h:Pts w b [l,m]):Calls Try.prog 39 #[.slice (some ⟨b,0,none⟩) 2 c, .slice none 0 0] w fun e w'=>∃g d,e= .returned (.slice (some ⟨g,0,none⟩) (l++m).length d)∧w.heap.size≤g∧(l++m).length≤d∧Rb w' (some ⟨g,0,none⟩) (l++m)∧Gr w w':=by
 obtain ⟨p,c0,h1,h2⟩:=h 0 (by simp)
 obtain ⟨q,c1,h3,h4⟩:=h 1 (by simp)
 have hP:Lib.PartsAt w ⟨b,0,none⟩ [.slice (some p) l.length c0, .slice (some q) m.length c1] [l,m]:=by
  refine ⟨rfl,fun i v hv=>?_,fun i v l' hv hl'=>?_⟩
  ·
   match i,hv with
   | 0,hv=>simp at hv;subst hv;exact h1
   | 1,hv=>simp at hv;subst hv;exact h3
   | i+2,hv=>simp at hv
  ·
   match i,hv,hl' with
   | 0,hv,hl'=>simp at hv hl';subst hv;subst hl';exact ⟨some p,c0,rfl,(fun e=>by cases e),(fun a e=>by injection e with e;subst e;exact fun i x hx=>h2.cells i x hx)⟩
   | 1,hv,hl'=>simp at hv hl';subst hv;subst hl';exact ⟨some q,c1,rfl,(fun e=>by cases e),(fun a e=>by injection e with e;subst e;exact fun i x hx=>h4.cells i x hx)⟩
   | i+2,hv,_=>simp at hv
 have hS:Lib.HoldsBytes w (.slice none 0 0) []:=⟨none,0,rfl,fun _=>rfl,fun a e=>by cases e⟩
 refine (Try.bytes_Join_many b 0 2 c _ [l,m] (.slice none 0 0) [] w rfl (by omega) hP hc hS (by omega) (by simp[Lib.lens];omega)).mono ?_
 rintro e w' ⟨v',rfl,hf,hg⟩
 rw[join_nil] at hf
 have e1:[l,m].flatten=l++m:=by simp
 rw[e1] at hf
 obtain ⟨g,d,rfl,q1,q2,q3⟩:=fresh_rb hf (by rw[List.length_append];omega)
 exact ⟨g,d,rfl,q1,q2,q3,hg⟩
end Go.Proofs.Ytoncapkmaeghfaa
