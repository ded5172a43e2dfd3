import Derived.Test.YtoncapkmaeghfaaGreatRunFxWalk
import Derived.Test.YtoncapkmaeghfaaGreatRunFxDiv
import Derived.Outline
import Derived.Deep.RegionHeld3
import Derived.StillTailTactics
set_option linter.all false
set_option maxRecDepth 1000000
set_option maxHeartbeats 12800000
namespace Go.Proofs.YtoncapkmaeghfaaGreat
open Go.RowKit
def mdV (a b c:Int):Vl:=bif mdOk a b c then ofV (mdN a b c) else ⟨false,0⟩
def divV (a b:Vl):Vl:=bif knB a&&knB b then mdV a.n 1000000 b.n else ⟨false,0⟩
theorem muldiv_at (a b c:Int) (ha1: -9223372036854775808≤a) (ha2:a≤9223372036854775807) (hb1: -9223372036854775808≤b) (hb2:b≤9223372036854775807) (hc1: -9223372036854775808≤c) (hc2:c≤9223372036854775807) (w:World) :
  Calls Tryz.prog 134 #[.int .i64 a, .int .i64 b, .int .i64 c] w fun e w'=>e= .returned (.tuple #[.int .i64 (mdN a b c), .bool (mdOk a b c)])∧Gr w w':=
 (muldiv_any a b c ha1 ha2 hb1 hb2 hc1 hc2 w).mono fun _ _ h=>h
theorem rmuldiv_at (a b c:Int) (ha1: -9223372036854775808≤a) (ha2:a≤9223372036854775807) (hb1: -9223372036854775808≤b) (hb2:b≤9223372036854775807) (hc1: -9223372036854775808≤c) (hc2:c≤9223372036854775807) (w:World) :
  Calls Tryz.prog 130 #[.int .i64 a, .int .i64 b, .int .i64 c] w fun e w'=>e= .returned (.tuple #[.int .i64 (mdN a b c), .bool (mdOk a b c)])∧Gr w w':=
 (rmuldiv_any a b c ha1 ha2 hb1 hb2 hc1 hc2 w).mono fun _ _ ⟨he,hw⟩=>⟨he,hw▸Gr.refl _⟩
theorem val_any (n:Int) (ok:Bool) (w:World) :
  Calls Tryz.prog 133 #[.int .i64 n, .bool ok] w fun e w'=>e= .returned (.agg #[.bool (bif ok then ofV n else ⟨false,0⟩).ok, .int .i64 (bif ok then ofV n else ⟨false,0⟩).n])∧Gr w w':=by
 cases ok
 ·
  rw[cond_false]
  go_enter Tryz.func133,Tryz.ntmps133
  go_wp2
  exact bodyPost_ret (v:= .agg #[.bool false, .int .i64 0]) (by simp[results,Tryz.results133,go_sem]) rfl ⟨rfl,gq⟩
 ·
  rw[cond_true]
  go_enter Tryz.func133,Tryz.ntmps133
  go_wp2_with fail
  refine (of_any n _).mono ?_;rintro e w1 ⟨rfl,hg⟩;obtain ⟨hc,hf⟩:=hg.cells;have hz:=hg.size;(try simp at hz);have z0:w.heap.size<w1.heap.size:=(by omega)
  go_wp2
  have q0:w1.cell? ⟨w.heap.size,0,none⟩=some (.bool false):=by go_simp
  have q1:w1.cell? ⟨w.heap.size,1,none⟩=some (.int .i64 0):=by go_simp
  exact bodyPost_ret (v:= .agg #[.bool (ofV n).ok, .int .i64 (ofV n).n]) (by simp[results,Tryz.results133,go_sem, *]) rfl ⟨rfl,gq⟩
theorem div_any (a b:Vl) (w:World) :
  Calls Tryz.prog 125 #[.agg #[.bool a.ok, .int .i64 a.n], .agg #[.bool b.ok, .int .i64 b.n]] w fun e w'=>e= .returned (.agg #[.bool (divV a b).ok, .int .i64 (divV a b).n])∧Gr w w':=by
 cases ha:knB a
 ·
  have hv:divV a b=⟨false,0⟩:=by simp[divV,ha]
  rw[hv];clear hv
  go_enter Tryz.func125,Tryz.ntmps125
  go_wp2_with fail
  refine (kn_any a _).mono ?_;rintro e w1 ⟨rfl,hg⟩;obtain ⟨hc,hf⟩:=hg.cells;have hz:=hg.size;(try simp at hz);have z0:w.heap.size<w1.heap.size:=(by omega);have z1:w.heap.size+1<w1.heap.size:=(by omega);have z2:w.heap.size+1+1<w1.heap.size:=(by omega)
  go_wp2
  have q0:w1.cell? ⟨w.heap.size+1+1,0,none⟩=some (.bool false):=by go_simp
  have q1:w1.cell? ⟨w.heap.size+1+1,1,none⟩=some (.int .i64 0):=by go_simp
  exact bodyPost_ret (v:= .agg #[.bool false, .int .i64 0]) (by simp[results,Tryz.results125,go_sem, *]) rfl ⟨rfl,gq⟩
 cases hb:knB b
 ·
  have hv:divV a b=⟨false,0⟩:=by simp[divV,hb]
  rw[hv];clear hv
  go_enter Tryz.func125,Tryz.ntmps125
  go_wp2_with fail
  refine (kn_any a _).mono ?_;rintro e w1 ⟨rfl,hg⟩;obtain ⟨hc,hf⟩:=hg.cells;have hz:=hg.size;(try simp at hz);have z0:w.heap.size<w1.heap.size:=(by omega);have z1:w.heap.size+1<w1.heap.size:=(by omega);have z2:w.heap.size+1+1<w1.heap.size:=(by omega)
  go_wp2_with fail
  refine (kn_any b _).mono ?_;rintro e w1 ⟨rfl,hg⟩;obtain ⟨hc,hf⟩:=hg.cells;have hz:=hg.size;(try simp at hz);have z0:w.heap.size<w1.heap.size:=(by omega);have z1:w.heap.size+1<w1.heap.size:=(by omega);have z2:w.heap.size+1+1<w1.heap.size:=(by omega)
  go_wp2
  have q0:w1.cell? ⟨w.heap.size+1+1,0,none⟩=some (.bool false):=by go_simp
  have q1:w1.cell? ⟨w.heap.size+1+1,1,none⟩=some (.int .i64 0):=by go_simp
  exact bodyPost_ret (v:= .agg #[.bool false, .int .i64 0]) (by simp[results,Tryz.results125,go_sem, *]) rfl ⟨rfl,gq⟩
 have hv:divV a b=mdV a.n 1000000 b.n:=by simp[divV,ha,hb]
 rw[hv];clear hv
 have a1:=knB_lo ha
 have a2:=knB_hi ha
 have b1:=knB_lo hb
 have b2:=knB_hi hb
 have M:=Lib.hid (muldiv_at a.n 1000000 b.n (by omega) (by omega) (by omega) (by omega) (by omega) (by omega))
 go_enter Tryz.func125,Tryz.ntmps125
 go_wp2_with fail
 refine (kn_any a _).mono ?_;rintro e w1 ⟨rfl,hg⟩;obtain ⟨hc,hf⟩:=hg.cells;have hz:=hg.size;(try simp at hz);have z0:w.heap.size<w1.heap.size:=(by omega);have z1:w.heap.size+1<w1.heap.size:=(by omega);have z2:w.heap.size+1+1<w1.heap.size:=(by omega)
 go_wp2_with fail
 refine (kn_any b _).mono ?_;rintro e w1 ⟨rfl,hg⟩;obtain ⟨hc,hf⟩:=hg.cells;have hz:=hg.size;(try simp at hz);have z0:w.heap.size<w1.heap.size:=(by omega);have z1:w.heap.size+1<w1.heap.size:=(by omega);have z2:w.heap.size+1+1<w1.heap.size:=(by omega)
 go_wp2_with fail
 refine (M.out _).mono ?_;rintro e w1 ⟨rfl,hg⟩;obtain ⟨hc,hf⟩:=hg.cells;have hz:=hg.size;(try simp at hz);have z0:w.heap.size<w1.heap.size:=(by omega);have z1:w.heap.size+1<w1.heap.size:=(by omega);have z2:w.heap.size+1+1<w1.heap.size:=(by omega)
 go_wp2_with fail
 refine (val_any (mdN a.n 1000000 b.n) (mdOk a.n 1000000 b.n) _).mono ?_;rintro e w1 ⟨rfl,hg⟩;obtain ⟨hc,hf⟩:=hg.cells;have hz:=hg.size;(try simp at hz);have z0:w.heap.size<w1.heap.size:=(by omega);have z1:w.heap.size+1<w1.heap.size:=(by omega);have z2:w.heap.size+1+1<w1.heap.size:=(by omega)
 go_wp2
 have q0:w1.cell? ⟨w.heap.size+1+1,0,none⟩=some (.bool false):=by go_simp
 have q1:w1.cell? ⟨w.heap.size+1+1,1,none⟩=some (.int .i64 0):=by go_simp
 exact bodyPost_ret (v:= .agg #[.bool (mdV a.n 1000000 b.n).ok, .int .i64 (mdV a.n 1000000 b.n).n]) (by simp[results,Tryz.results125,go_sem,mdV, *]) rfl ⟨rfl,gq⟩
theorem rdiv_any (a b:Vl) (w:World) :
  Calls Tryz.prog 119 #[.agg #[.bool a.ok, .int .i64 a.n], .agg #[.bool b.ok, .int .i64 b.n]] w fun e w'=>e= .returned (.agg #[.bool (divV a b).ok, .int .i64 (divV a b).n])∧Gr w w':=by
 cases hab:(knB a&&knB b)
 ·
  have hv:divV a b=⟨false,0⟩:=by simp[divV,hab]
  rw[hv];clear hv
  go_enter Tryz.func119,Tryz.ntmps119
  go_wp2_with fail
  refine (two_any a b _).mono ?_;rintro e w1 ⟨rfl,hg⟩;obtain ⟨hc,hf⟩:=hg.cells;have hz:=hg.size;(try simp at hz);have z0:w.heap.size<w1.heap.size:=(by omega);have z1:w.heap.size+1<w1.heap.size:=(by omega);have z2:w.heap.size+1+1<w1.heap.size:=(by omega)
  go_wp2
  have q0:w1.cell? ⟨w.heap.size+1+1,0,none⟩=some (.bool false):=by go_simp
  have q1:w1.cell? ⟨w.heap.size+1+1,1,none⟩=some (.int .i64 0):=by go_simp
  exact bodyPost_ret (v:= .agg #[.bool false, .int .i64 0]) (by simp[results,Tryz.results119,go_sem, *]) rfl ⟨rfl,gq⟩
 have hv:divV a b=mdV a.n 1000000 b.n:=by simp[divV,hab]
 rw[hv];clear hv
 have ha:knB a=true:=by simp at hab;exact hab.1
 have hb:knB b=true:=by simp at hab;exact hab.2
 have a1:=knB_lo ha
 have a2:=knB_hi ha
 have b1:=knB_lo hb
 have b2:=knB_hi hb
 have M:=Lib.hid (rmuldiv_at a.n 1000000 b.n (by omega) (by omega) (by omega) (by omega) (by omega) (by omega))
 cases hok:mdOk a.n 1000000 b.n
 ·
  have hv:mdV a.n 1000000 b.n=⟨false,0⟩:=by simp[mdV,hok]
  rw[hv];clear hv
  go_enter Tryz.func119,Tryz.ntmps119
  go_wp2_with fail
  refine (two_any a b _).mono ?_;rintro e w1 ⟨rfl,hg⟩;obtain ⟨hc,hf⟩:=hg.cells;have hz:=hg.size;(try simp at hz);have z0:w.heap.size<w1.heap.size:=(by omega);have z1:w.heap.size+1<w1.heap.size:=(by omega);have z2:w.heap.size+1+1<w1.heap.size:=(by omega)
  go_wp2_with fail
  refine (M.out _).mono ?_;rintro e w1 ⟨rfl,hg⟩;obtain ⟨hc,hf⟩:=hg.cells;have hz:=hg.size;(try simp at hz);have z0:w.heap.size<w1.heap.size:=(by omega);have z1:w.heap.size+1<w1.heap.size:=(by omega);have z2:w.heap.size+1+1<w1.heap.size:=(by omega)
  go_wp2
  have q0:w1.cell? ⟨w.heap.size+1+1,0,none⟩=some (.bool false):=by go_simp
  have q1:w1.cell? ⟨w.heap.size+1+1,1,none⟩=some (.int .i64 0):=by go_simp
  exact bodyPost_ret (v:= .agg #[.bool false, .int .i64 0]) (by simp[results,Tryz.results119,go_sem, *]) rfl ⟨rfl,gq⟩
 ·
  have hv:mdV a.n 1000000 b.n=ofV (mdN a.n 1000000 b.n):=by simp[mdV,hok]
  rw[hv];clear hv
  go_enter Tryz.func119,Tryz.ntmps119
  go_wp2_with fail
  refine (two_any a b _).mono ?_;rintro e w1 ⟨rfl,hg⟩;obtain ⟨hc,hf⟩:=hg.cells;have hz:=hg.size;(try simp at hz);have z0:w.heap.size<w1.heap.size:=(by omega);have z1:w.heap.size+1<w1.heap.size:=(by omega);have z2:w.heap.size+1+1<w1.heap.size:=(by omega)
  go_wp2_with fail
  refine (M.out _).mono ?_;rintro e w1 ⟨rfl,hg⟩;obtain ⟨hc,hf⟩:=hg.cells;have hz:=hg.size;(try simp at hz);have z0:w.heap.size<w1.heap.size:=(by omega);have z1:w.heap.size+1<w1.heap.size:=(by omega);have z2:w.heap.size+1+1<w1.heap.size:=(by omega)
  go_wp2_with fail
  refine (rof_any (mdN a.n 1000000 b.n) _).mono ?_;rintro e w1 ⟨rfl,hg⟩;obtain ⟨hc,hf⟩:=hg.cells;have hz:=hg.size;(try simp at hz);have z0:w.heap.size<w1.heap.size:=(by omega);have z1:w.heap.size+1<w1.heap.size:=(by omega);have z2:w.heap.size+1+1<w1.heap.size:=(by omega)
  go_wp2
  have q0:w1.cell? ⟨w.heap.size+1+1,0,none⟩=some (.bool false):=by go_simp
  have q1:w1.cell? ⟨w.heap.size+1+1,1,none⟩=some (.int .i64 0):=by go_simp
  exact bodyPost_ret (v:= .agg #[.bool (ofV (mdN a.n 1000000 b.n)).ok, .int .i64 (ofV (mdN a.n 1000000 b.n)).n]) (by simp[results,Tryz.results119,go_sem, *]) rfl ⟨rfl,gq⟩
def maxV (x:Vl) (l:List Vl):Vl:=l.foldl (fun b v=>bif lessB b v then v else b) x
def minV (x:Vl) (l:List Vl):Vl:=l.foldl (fun b v=>bif lessB v b then v else b) x
def ofK (kind:Int) (K:List Vl):Vl:=
 if h:0<K.length then if kind=2 then addV K else if kind=1 then divV (addV K) (intV (K.length:Nat)) else if kind=3 then K[K.length-1] else if kind=4 then maxV K[0] K else if kind=5 then minV K[0] K else ⟨false,0⟩
 else ⟨false,0⟩
def aggV (kind:Int) (l:List Vl):Vl:=ofK kind (kn l)
theorem max_take {x:Vl} {K:List Vl} {k:Nat} (h:k<K.length):maxV x (K.take (k+1))=bif lessB (maxV x (K.take k)) K[k] then K[k] else maxV x (K.take k):=by
 unfold maxV;rw[List.take_succ_eq_append_getElem h,List.foldl_append];rfl
theorem min_take {x:Vl} {K:List Vl} {k:Nat} (h:k<K.length):minV x (K.take (k+1))=bif lessB K[k] (minV x (K.take k)) then K[k] else minV x (K.take k):=by
 unfold minV;rw[List.take_succ_eq_append_getElem h,List.foldl_append];rfl
theorem len_facts {K:List Vl} (h0:0<K.length):((K.length:Int)==0)=false∧(K.length==0)=false:=by
 constructor
 ·
  exact beq_eq_false_iff_ne.2 (by omega)
 ·
  exact beq_eq_false_iff_ne.2 (by omega)
theorem of_nil (kind:Int) (A:Option Addr) (c:Nat) (l:List Vl) (w:World) (hl:l.length≤1000000) (hr:Rv w A l) (h0:(kn l).length=0) :
  Calls Tryz.prog 115 #[.int .i64 kind, .slice A l.length c] w fun e w'=>e= .returned (.agg #[.bool (⟨false,0⟩:Vl).ok, .int .i64 (⟨false,0⟩:Vl).n])∧Gr w w':=by
 obtain ⟨K,hK⟩:∃K,K=kn l:=⟨_,rfl⟩
 have hn:(((kn l).length:Int)==0)=true:=by simp[h0]
 have hn':((kn l).length==0)=true:=by simp[h0]
 have H0:=Lib.hid h0;clear h0 hK
 go_enter Tryz.func115,Tryz.ntmps115
 go_wp2_with fail
 refine (known_vals_any A c l _ hl (hr.gr (Gr.alloc (Gr.refl _) _))).mono ?_;rintro e w1 ⟨A',c',rfl,hrv,hg⟩
 obtain ⟨hc,hf⟩:=hg.cells
 have z0:w.heap.size<w1.heap.size:=by have:=hg.size;simp at this;omega
 have q0:w1.cell? ⟨w.heap.size,0,none⟩=some (.bool false):=by go_simp
 have q1:w1.cell? ⟨w.heap.size,1,none⟩=some (.int .i64 0):=by go_simp
 have f0:w1.frozen? ⟨w.heap.size,0,none⟩=false:=by go_simp
 have f1:w1.frozen? ⟨w.heap.size,1,none⟩=false:=by go_simp
 have hgw:Gr w w1:=gq
 clear hc hf hg
 go_wp2
 exact bodyPost_ret (v:= .agg #[.bool false, .int .i64 0]) (by simp[results,Tryz.results115,go_sem, *]) rfl ⟨rfl,gq⟩
theorem of_sum (A:Option Addr) (c:Nat) (l:List Vl) (w:World) (hl:l.length≤1000000) (hr:Rv w A l) (K:List Vl) (hK:kn l=K) (h0:0<K.length) :
  Calls Tryz.prog 115 #[.int .i64 2, .slice A l.length c] w fun e w'=>e= .returned (.agg #[.bool (addV K).ok, .int .i64 (addV K).n])∧Gr w w':=by
 have hlen:K.length≤1000000:=by rw[←hK];exact Nat.le_trans (kn_len l) hl
 obtain ⟨hn,hn'⟩:=len_facts h0
 have hlK:(K.length:Int)≤1000000:=by omega
 have hpK:(0:Int)<(K.length:Int):=by omega
 go_enter Tryz.func115,Tryz.ntmps115
 go_wp2_with fail
 refine (known_vals_any A c l _ hl (hr.gr (Gr.alloc (Gr.refl _) _))).mono ?_;rintro e w1 ⟨A',c',rfl,hrv,hg⟩
 obtain ⟨hc,hf⟩:=hg.cells
 have z0:w.heap.size<w1.heap.size:=by have:=hg.size;simp at this;omega
 have q0:w1.cell? ⟨w.heap.size,0,none⟩=some (.bool false):=by go_simp
 have q1:w1.cell? ⟨w.heap.size,1,none⟩=some (.int .i64 0):=by go_simp
 have f0:w1.frozen? ⟨w.heap.size,0,none⟩=false:=by go_simp
 have f1:w1.frozen? ⟨w.heap.size,1,none⟩=false:=by go_simp
 have hgw:Gr w w1:=gq
 clear hc hf hg
 rw[hK] at hrv ⊢
 have HK:=Lib.hid hK;clear hK
 obtain ⟨ad,hAd,hb,hx0,hx1⟩:=hrv.at h0
 subst hAd
 rw[Nat.zero_mul] at hx0 hx1
 have ha0:ad.add 0=ad:=rfl
 rw[ha0] at hx0 hx1
 go_wp2_with fail
 refine (add_any (some ad) c' K _ (by unfold maxLen;omega) ?hrA).mono ?_;(case hrA=>exact hrv.gr gq);rintro e w2 ⟨rfl,hg2⟩
 have hgA:Gr w1 w2:=gq
 clear hg2
 have x0:=(hgA.cell (p:=⟨w.heap.size,0,none⟩) z0).trans q0
 have x1:=(hgA.cell (p:=⟨w.heap.size,1,none⟩) z0).trans q1
 have y0:=(hgA.frozen (p:=⟨w.heap.size,0,none⟩) z0).trans f0
 have y1:=(hgA.frozen (p:=⟨w.heap.size,1,none⟩) z0).trans f1
 go_wp2
 exact bodyPost_ret (v:= .agg #[.bool (addV K).ok, .int .i64 (addV K).n]) (by simp[results,Tryz.results115,go_sem, *]) rfl ⟨rfl,gq⟩
theorem of_avg (A:Option Addr) (c:Nat) (l:List Vl) (w:World) (hl:l.length≤1000000) (hr:Rv w A l) (K:List Vl) (hK:kn l=K) (h0:0<K.length) :
  Calls Tryz.prog 115 #[.int .i64 1, .slice A l.length c] w fun e w'=>e= .returned (.agg #[.bool (divV (addV K) (intV (K.length:Nat))).ok, .int .i64 (divV (addV K) (intV (K.length:Nat))).n])∧Gr w w':=by
 have hlen:K.length≤1000000:=by rw[←hK];exact Nat.le_trans (kn_len l) hl
 obtain ⟨hn,hn'⟩:=len_facts h0
 have hlK:(K.length:Int)≤1000000:=by omega
 have hpK:(0:Int)<(K.length:Int):=by omega
 go_enter Tryz.func115,Tryz.ntmps115
 go_wp2_with fail
 refine (known_vals_any A c l _ hl (hr.gr (Gr.alloc (Gr.refl _) _))).mono ?_;rintro e w1 ⟨A',c',rfl,hrv,hg⟩
 obtain ⟨hc,hf⟩:=hg.cells
 have z0:w.heap.size<w1.heap.size:=by have:=hg.size;simp at this;omega
 have q0:w1.cell? ⟨w.heap.size,0,none⟩=some (.bool false):=by go_simp
 have q1:w1.cell? ⟨w.heap.size,1,none⟩=some (.int .i64 0):=by go_simp
 have f0:w1.frozen? ⟨w.heap.size,0,none⟩=false:=by go_simp
 have f1:w1.frozen? ⟨w.heap.size,1,none⟩=false:=by go_simp
 have hgw:Gr w w1:=gq
 clear hc hf hg
 rw[hK] at hrv ⊢
 have HK:=Lib.hid hK;clear hK
 obtain ⟨ad,hAd,hb,hx0,hx1⟩:=hrv.at h0
 subst hAd
 rw[Nat.zero_mul] at hx0 hx1
 have ha0:ad.add 0=ad:=rfl
 rw[ha0] at hx0 hx1
 go_wp2_with fail
 refine (add_any (some ad) c' K _ (by unfold maxLen;omega) ?hrA).mono ?_;(case hrA=>exact hrv.gr gq);rintro e w2 ⟨rfl,hg2⟩
 have hgA:Gr w1 w2:=gq
 clear hg2
 have HA:=Lib.hid hgA
 go_wp2_with fail
 refine (int_any (K.length:Nat) _).mono ?_;rintro e w3 ⟨rfl,hg3⟩
 have hgB:Gr w1 w3:=Gr.trans hgA hg3
 clear hg3 hgA
 go_wp2_with fail
 refine (div_any (addV K) (intV (K.length:Nat)) _).mono ?_;rintro e w4 ⟨rfl,hg4⟩
 have hgC:Gr w1 w4:=Gr.trans hgB hg4
 clear hg4 hgB
 have x0:=(hgC.cell (p:=⟨w.heap.size,0,none⟩) z0).trans q0
 have x1:=(hgC.cell (p:=⟨w.heap.size,1,none⟩) z0).trans q1
 have y0:=(hgC.frozen (p:=⟨w.heap.size,0,none⟩) z0).trans f0
 have y1:=(hgC.frozen (p:=⟨w.heap.size,1,none⟩) z0).trans f1
 go_wp2
 exact bodyPost_ret (v:= .agg #[.bool (divV (addV K) (intV (K.length:Nat))).ok, .int .i64 (divV (addV K) (intV (K.length:Nat))).n]) (by simp[results,Tryz.results115,go_sem, *]) rfl ⟨rfl,gq⟩
theorem of_last (A:Option Addr) (c:Nat) (l:List Vl) (w:World) (hl:l.length≤1000000) (hr:Rv w A l) (K:List Vl) (hK:kn l=K) (h0:0<K.length) :
  Calls Tryz.prog 115 #[.int .i64 3, .slice A l.length c] w fun e w'=>e= .returned (.agg #[.bool (K[K.length-1]).ok, .int .i64 (K[K.length-1]).n])∧Gr w w':=by
 obtain ⟨m,hm⟩:∃m,K.length=m+1:=⟨K.length-1,by omega⟩
 have hmlt:m<K.length:=by omega
 have hmK:K[K.length-1]=K[m]:=by congr 1;omega
 rw[hmK];clear hmK
 have hmi:(K.length:Int)-1=(m:Int):=by omega
 have hmI:(m:Int)<(K.length:Int):=by omega
 have hmz:(m:Int)≤1000000:=by rw[←hK] at hm;have:=kn_len l;omega
 have hlen:K.length≤1000000:=by rw[←hK];exact Nat.le_trans (kn_len l) hl
 obtain ⟨hn,hn'⟩:=len_facts h0
 have hlK:(K.length:Int)≤1000000:=by omega
 have hpK:(0:Int)<(K.length:Int):=by omega
 go_enter Tryz.func115,Tryz.ntmps115
 go_wp2_with fail
 refine (known_vals_any A c l _ hl (hr.gr (Gr.alloc (Gr.refl _) _))).mono ?_;rintro e w1 ⟨A',c',rfl,hrv,hg⟩
 obtain ⟨hc,hf⟩:=hg.cells
 have z0:w.heap.size<w1.heap.size:=by have:=hg.size;simp at this;omega
 have q0:w1.cell? ⟨w.heap.size,0,none⟩=some (.bool false):=by go_simp
 have q1:w1.cell? ⟨w.heap.size,1,none⟩=some (.int .i64 0):=by go_simp
 have f0:w1.frozen? ⟨w.heap.size,0,none⟩=false:=by go_simp
 have f1:w1.frozen? ⟨w.heap.size,1,none⟩=false:=by go_simp
 have hgw:Gr w w1:=gq
 clear hc hf hg
 rw[hK] at hrv ⊢
 have HK:=Lib.hid hK;clear hK
 obtain ⟨ad,hAd,hb,hx0,hx1⟩:=hrv.at h0
 subst hAd
 rw[Nat.zero_mul] at hx0 hx1
 have ha0:ad.add 0=ad:=rfl
 rw[ha0] at hx0 hx1
 obtain ⟨ad',hAd,hb',hy0,hy1⟩:=hrv.at hmlt
 obtain rfl:ad=ad':=by injection hAd
 have HM:=Lib.hid hm;clear hm hAd
 have hya:∀o,(w1.alloc o).cell? (ad.add (m*2))=some (.bool K[m].ok):=fun o=>(Gr.cell (Gr.alloc (Gr.refl _) o) (by rw[add_blk];exact hb)).trans hy0
 have hyb:∀o,(w1.alloc o).cell? ⟨(ad.add (m*2)).block,(ad.add (m*2)).off+1,none⟩=some (.int .i64 K[m].n):=fun o=>(Gr.cell (Gr.alloc (Gr.refl _) o) (by rw[add_blk];exact hb)).trans hy1
 go_wp2
 exact bodyPost_ret (v:= .agg #[.bool K[m].ok, .int .i64 K[m].n]) (by simp[results,Tryz.results115,go_sem, *]) rfl ⟨rfl,gq⟩
theorem of_max (A:Option Addr) (c:Nat) (l:List Vl) (w:World) (hl:l.length≤1000000) (hr:Rv w A l) (K:List Vl) (hK:kn l=K) (h0:0<K.length) :
  Calls Tryz.prog 115 #[.int .i64 4, .slice A l.length c] w fun e w'=>e= .returned (.agg #[.bool (maxV K[0] K).ok, .int .i64 (maxV K[0] K).n])∧Gr w w':=by
 obtain ⟨x,hx⟩:∃x,K[0]=x:=⟨_,rfl⟩
 rw[hx]
 have hlen:K.length≤1000000:=by rw[←hK];exact Nat.le_trans (kn_len l) hl
 obtain ⟨hn,hn'⟩:=len_facts h0
 have hlK:(K.length:Int)≤1000000:=by omega
 have hpK:(0:Int)<(K.length:Int):=by omega
 go_enter Tryz.func115,Tryz.ntmps115
 go_wp2_with fail
 refine (known_vals_any A c l _ hl (hr.gr (Gr.alloc (Gr.refl _) _))).mono ?_;rintro e w1 ⟨A',c',rfl,hrv,hg⟩
 obtain ⟨hc,hf⟩:=hg.cells
 have z0:w.heap.size<w1.heap.size:=by have:=hg.size;simp at this;omega
 have q0:w1.cell? ⟨w.heap.size,0,none⟩=some (.bool false):=by go_simp
 have q1:w1.cell? ⟨w.heap.size,1,none⟩=some (.int .i64 0):=by go_simp
 have f0:w1.frozen? ⟨w.heap.size,0,none⟩=false:=by go_simp
 have f1:w1.frozen? ⟨w.heap.size,1,none⟩=false:=by go_simp
 have hgw:Gr w w1:=gq
 clear hc hf hg
 rw[hK] at hrv ⊢
 have HK:=Lib.hid hK;clear hK
 obtain ⟨ad,hAd,hb,hx0,hx1⟩:=hrv.at h0
 subst hAd
 rw[Nat.zero_mul] at hx0 hx1
 have ha0:ad.add 0=ad:=rfl
 rw[ha0] at hx0 hx1
 rw[hx] at hx0 hx1
 have HX:=Lib.hid hx;clear hx
 go_wp2
 go_loopw [45] (fun i wr=>∃(k:Nat) (b:Vl),k≤K.length∧i= .int .i64 k∧Gr w1 wr∧w1.heap.size<wr.heap.size∧
   wr.cell? ⟨w1.heap.size,0,none⟩=some (.bool b.ok)∧wr.cell? ⟨w1.heap.size,1,none⟩=some (.int .i64 b.n)∧
   wr.frozen? ⟨w1.heap.size,0,none⟩=false∧wr.frozen? ⟨w1.heap.size,1,none⟩=false∧b=maxV x (K.take k))
  (fun i _=>K.length-(intOf i).toNat)
 case atStart=>exact ⟨0,x,Nat.zero_le _,rfl,gq,by simp,by go_simp,by go_simp,by go_simp,by go_simp,rfl⟩
 case round=>
  obtain ⟨k,b,hk,rfl,hgr,hzr,a0,a1,af0,af1,hbm⟩:=hrel
  by_cases hlt:k<K.length
  ·
   obtain ⟨ad',hAd,hb',hy0,hy1⟩:=(hrv.gr hgr).at hlt
   obtain rfl:ad=ad':=by injection hAd
   have Ht:=max_take (x:=x) hlt
   rw[←hbm] at Ht
   clear hbm hAd
   cases hlb:lessB b K[k]
   ·
    rw[hlb] at Ht
    have HT:=Lib.hid Ht;clear Ht
    go_wp2_with fail
    refine (less_any b K[k] _).mono ?_;rintro e w2 ⟨rfl,hg2⟩;obtain ⟨hc2,hf2⟩:=hg2.cells;have hz2:=hg2.size;(try simp at hz2)
    have y2:w1.heap.size<w2.heap.size:=(by omega)
    have y3:w1.heap.size<wr.heap.size+1:=(by omega)
    go_wp2
    go_roundw
    case rel=>exact ⟨k+1,b,by omega,by go_num,gq,by omega,by go_simp,by go_simp,by go_simp,by go_simp,HT.out.symm⟩
    case measure=>simp[intOf];omega
   ·
    rw[hlb] at Ht
    have HT:=Lib.hid Ht;clear Ht
    go_wp2_with fail
    refine (less_any b K[k] _).mono ?_;rintro e w2 ⟨rfl,hg2⟩;obtain ⟨hc2,hf2⟩:=hg2.cells;have hz2:=hg2.size;(try simp at hz2)
    have y2:w1.heap.size<w2.heap.size:=(by omega)
    have y3:w1.heap.size<wr.heap.size+1:=(by omega)
    go_wp2
    go_roundw
    case rel=>exact ⟨k+1,K[k],by omega,by go_num,gq,by simp;omega,by go_simp,by go_simp,by go_simp,by go_simp,HT.out.symm⟩
    case measure=>simp[intOf];omega
  ·
   have hkk:k=K.length:=by omega
   subst hkk
   rw[List.take_length] at hbm
   subst hbm
   have x0:=(hgr.cell (p:=⟨w.heap.size,0,none⟩) z0).trans q0
   have x1:=(hgr.cell (p:=⟨w.heap.size,1,none⟩) z0).trans q1
   have y0:=(hgr.frozen (p:=⟨w.heap.size,0,none⟩) z0).trans f0
   have y1:=(hgr.frozen (p:=⟨w.heap.size,1,none⟩) z0).trans f1
   go_wp2
   exact bodyPost_ret (v:= .agg #[.bool (maxV x K).ok, .int .i64 (maxV x K).n]) (by simp[results,Tryz.results115,go_sem, *]) rfl ⟨rfl,gq⟩
theorem of_min (A:Option Addr) (c:Nat) (l:List Vl) (w:World) (hl:l.length≤1000000) (hr:Rv w A l) (K:List Vl) (hK:kn l=K) (h0:0<K.length) :
  Calls Tryz.prog 115 #[.int .i64 5, .slice A l.length c] w fun e w'=>e= .returned (.agg #[.bool (minV K[0] K).ok, .int .i64 (minV K[0] K).n])∧Gr w w':=by
 obtain ⟨x,hx⟩:∃x,K[0]=x:=⟨_,rfl⟩
 rw[hx]
 have hlen:K.length≤1000000:=by rw[←hK];exact Nat.le_trans (kn_len l) hl
 obtain ⟨hn,hn'⟩:=len_facts h0
 have hlK:(K.length:Int)≤1000000:=by omega
 have hpK:(0:Int)<(K.length:Int):=by omega
 go_enter Tryz.func115,Tryz.ntmps115
 go_wp2_with fail
 refine (known_vals_any A c l _ hl (hr.gr (Gr.alloc (Gr.refl _) _))).mono ?_;rintro e w1 ⟨A',c',rfl,hrv,hg⟩
 obtain ⟨hc,hf⟩:=hg.cells
 have z0:w.heap.size<w1.heap.size:=by have:=hg.size;simp at this;omega
 have q0:w1.cell? ⟨w.heap.size,0,none⟩=some (.bool false):=by go_simp
 have q1:w1.cell? ⟨w.heap.size,1,none⟩=some (.int .i64 0):=by go_simp
 have f0:w1.frozen? ⟨w.heap.size,0,none⟩=false:=by go_simp
 have f1:w1.frozen? ⟨w.heap.size,1,none⟩=false:=by go_simp
 have hgw:Gr w w1:=gq
 clear hc hf hg
 rw[hK] at hrv ⊢
 have HK:=Lib.hid hK;clear hK
 obtain ⟨ad,hAd,hb,hx0,hx1⟩:=hrv.at h0
 subst hAd
 rw[Nat.zero_mul] at hx0 hx1
 have ha0:ad.add 0=ad:=rfl
 rw[ha0] at hx0 hx1
 rw[hx] at hx0 hx1
 have HX:=Lib.hid hx;clear hx
 go_wp2
 go_loopw [59] (fun i wr=>∃(k:Nat) (b:Vl),k≤K.length∧i= .int .i64 k∧Gr w1 wr∧w1.heap.size<wr.heap.size∧
   wr.cell? ⟨w1.heap.size,0,none⟩=some (.bool b.ok)∧wr.cell? ⟨w1.heap.size,1,none⟩=some (.int .i64 b.n)∧
   wr.frozen? ⟨w1.heap.size,0,none⟩=false∧wr.frozen? ⟨w1.heap.size,1,none⟩=false∧b=minV x (K.take k))
  (fun i _=>K.length-(intOf i).toNat)
 case atStart=>exact ⟨0,x,Nat.zero_le _,rfl,gq,by simp,by go_simp,by go_simp,by go_simp,by go_simp,rfl⟩
 case round=>
  obtain ⟨k,b,hk,rfl,hgr,hzr,a0,a1,af0,af1,hbm⟩:=hrel
  by_cases hlt:k<K.length
  ·
   obtain ⟨ad',hAd,hb',hy0,hy1⟩:=(hrv.gr hgr).at hlt
   obtain rfl:ad=ad':=by injection hAd
   have Ht:=min_take (x:=x) hlt
   rw[←hbm] at Ht
   clear hbm hAd
   cases hlb:lessB K[k] b
   ·
    rw[hlb] at Ht
    have HT:=Lib.hid Ht;clear Ht
    go_wp2_with fail
    refine (less_any K[k] b _).mono ?_;rintro e w2 ⟨rfl,hg2⟩;obtain ⟨hc2,hf2⟩:=hg2.cells;have hz2:=hg2.size;(try simp at hz2)
    have y2:w1.heap.size<w2.heap.size:=(by omega)
    have y3:w1.heap.size<wr.heap.size+1:=(by omega)
    go_wp2
    go_roundw
    case rel=>exact ⟨k+1,b,by omega,by go_num,gq,by omega,by go_simp,by go_simp,by go_simp,by go_simp,HT.out.symm⟩
    case measure=>simp[intOf];omega
   ·
    rw[hlb] at Ht
    have HT:=Lib.hid Ht;clear Ht
    go_wp2_with fail
    refine (less_any K[k] b _).mono ?_;rintro e w2 ⟨rfl,hg2⟩;obtain ⟨hc2,hf2⟩:=hg2.cells;have hz2:=hg2.size;(try simp at hz2)
    have y2:w1.heap.size<w2.heap.size:=(by omega)
    have y3:w1.heap.size<wr.heap.size+1:=(by omega)
    go_wp2
    go_roundw
    case rel=>exact ⟨k+1,K[k],by omega,by go_num,gq,by simp;omega,by go_simp,by go_simp,by go_simp,by go_simp,HT.out.symm⟩
    case measure=>simp[intOf];omega
  ·
   have hkk:k=K.length:=by omega
   subst hkk
   rw[List.take_length] at hbm
   subst hbm
   have x0:=(hgr.cell (p:=⟨w.heap.size,0,none⟩) z0).trans q0
   have x1:=(hgr.cell (p:=⟨w.heap.size,1,none⟩) z0).trans q1
   have y0:=(hgr.frozen (p:=⟨w.heap.size,0,none⟩) z0).trans f0
   have y1:=(hgr.frozen (p:=⟨w.heap.size,1,none⟩) z0).trans f1
   go_wp2
   exact bodyPost_ret (v:= .agg #[.bool (minV x K).ok, .int .i64 (minV x K).n]) (by simp[results,Tryz.results115,go_sem, *]) rfl ⟨rfl,gq⟩
theorem of_other (kind:Int) (e1:(kind==1)=false) (e2:(kind==2)=false) (e3:(kind==3)=false) (e4:(kind==4)=false) (e5:(kind==5)=false) (A:Option Addr) (c:Nat) (l:List Vl) (w:World) (hl:l.length≤1000000) (hr:Rv w A l) (K:List Vl) (hK:kn l=K) (h0:0<K.length) :
  Calls Tryz.prog 115 #[.int .i64 kind, .slice A l.length c] w fun e w'=>e= .returned (.agg #[.bool (⟨false,0⟩:Vl).ok, .int .i64 (⟨false,0⟩:Vl).n])∧Gr w w':=by
 have hlen:K.length≤1000000:=by rw[←hK];exact Nat.le_trans (kn_len l) hl
 obtain ⟨hn,hn'⟩:=len_facts h0
 have hlK:(K.length:Int)≤1000000:=by omega
 have hpK:(0:Int)<(K.length:Int):=by omega
 go_enter Tryz.func115,Tryz.ntmps115
 go_wp2_with fail
 refine (known_vals_any A c l _ hl (hr.gr (Gr.alloc (Gr.refl _) _))).mono ?_;rintro e w1 ⟨A',c',rfl,hrv,hg⟩
 obtain ⟨hc,hf⟩:=hg.cells
 have z0:w.heap.size<w1.heap.size:=by have:=hg.size;simp at this;omega
 have q0:w1.cell? ⟨w.heap.size,0,none⟩=some (.bool false):=by go_simp
 have q1:w1.cell? ⟨w.heap.size,1,none⟩=some (.int .i64 0):=by go_simp
 have f0:w1.frozen? ⟨w.heap.size,0,none⟩=false:=by go_simp
 have f1:w1.frozen? ⟨w.heap.size,1,none⟩=false:=by go_simp
 have hgw:Gr w w1:=gq
 clear hc hf hg
 rw[hK] at hrv ⊢
 have HK:=Lib.hid hK;clear hK
 obtain ⟨ad,hAd,hb,hx0,hx1⟩:=hrv.at h0
 subst hAd
 rw[Nat.zero_mul] at hx0 hx1
 have ha0:ad.add 0=ad:=rfl
 rw[ha0] at hx0 hx1
 go_wp2
 exact bodyPost_ret (v:= .agg #[.bool false, .int .i64 0]) (by simp[results,Tryz.results115,go_sem, *]) rfl ⟨rfl,gq⟩
theorem agg_of_any (kind:Int) (A:Option Addr) (c:Nat) (l:List Vl) (w:World) (hl:l.length≤1000000) (hr:Rv w A l) :
  Calls Tryz.prog 115 #[.int .i64 kind, .slice A l.length c] w fun e w'=>e= .returned (.agg #[.bool (aggV kind l).ok, .int .i64 (aggV kind l).n])∧Gr w w':=by
 by_cases h0:0<(kn l).length
 ·
  by_cases k2:kind=2
  ·
   subst k2
   have hv:aggV 2 l=addV (kn l):=by simp[aggV,ofK,h0]
   rw[hv];exact of_sum A c l w hl hr _ rfl h0
  by_cases k1:kind=1
  ·
   subst k1
   have hv:aggV 1 l=divV (addV (kn l)) (intV ((kn l).length:Nat)):=by simp[aggV,ofK,h0]
   rw[hv];exact of_avg A c l w hl hr _ rfl h0
  by_cases k3:kind=3
  ·
   subst k3
   have hv:aggV 3 l=(kn l)[(kn l).length-1]:=by simp[aggV,ofK,h0]
   rw[hv];exact of_last A c l w hl hr _ rfl h0
  by_cases k4:kind=4
  ·
   subst k4
   have hv:aggV 4 l=maxV (kn l)[0] (kn l):=by simp[aggV,ofK,h0]
   rw[hv];exact of_max A c l w hl hr _ rfl h0
  by_cases k5:kind=5
  ·
   subst k5
   have hv:aggV 5 l=minV (kn l)[0] (kn l):=by simp[aggV,ofK,h0]
   rw[hv];exact of_min A c l w hl hr _ rfl h0
  have hv:aggV kind l=⟨false,0⟩:=by simp[aggV,ofK,h0,k1,k2,k3,k4,k5]
  rw[hv];exact of_other kind (beq_eq_false_iff_ne.2 k1) (beq_eq_false_iff_ne.2 k2) (beq_eq_false_iff_ne.2 k3) (beq_eq_false_iff_ne.2 k4) (beq_eq_false_iff_ne.2 k5) A c l w hl hr _ rfl h0
 ·
  have hv:aggV kind l=⟨false,0⟩:=by simp[aggV,ofK,h0]
  rw[hv];exact of_nil kind A c l w hl hr (by omega)
theorem radd_any (A:Option Addr) (c:Nat) (l:List Vl) (w:World) (hl:l.length≤maxLen) (hr:Rv w A l) :
  Calls Tryz.prog 118 #[.slice A l.length c] w fun e w'=>e= .returned (.agg #[.bool (addV l).ok, .int .i64 (addV l).n])∧Gr w w':=by
 unfold maxLen at hl
 go_enter Tryz.func118,Tryz.ntmps118
 go_wp2_with fail
 refine (rof_any 0 _).mono ?_;rintro e w1 ⟨rfl,hg⟩;obtain ⟨hc,hf⟩:=hg.cells;have hz:=hg.size;(try simp at hz);have z0:w.heap.size<w1.heap.size:=(by omega)
 go_wp2
 go_loopw [4] (fun i wr=>∃k:Nat,k≤l.length∧i= .int .i64 k∧Gr w wr∧w1.heap.size<wr.heap.size∧
   wr.cell? ⟨w.heap.size,0,none⟩=some (.bool false)∧wr.cell? ⟨w.heap.size,1,none⟩=some (.int .i64 0)∧wr.frozen? ⟨w.heap.size,0,none⟩=false∧wr.frozen? ⟨w.heap.size,1,none⟩=false∧
   wr.cell? ⟨w1.heap.size,0,none⟩=some (.bool (addV (l.take k)).ok)∧wr.cell? ⟨w1.heap.size,1,none⟩=some (.int .i64 (addV (l.take k)).n)∧
   wr.frozen? ⟨w1.heap.size,0,none⟩=false∧wr.frozen? ⟨w1.heap.size,1,none⟩=false)
  (fun i _=>l.length-(intOf i).toNat)
 case atStart=>exact ⟨0,Nat.zero_le _,rfl,gq,by simp,by go_simp,by go_simp,by go_simp,by go_simp,by go_simp;rfl,by go_simp;rfl,by go_simp,by go_simp⟩
 case round=>
  obtain ⟨k,hk,rfl,hgr,hzr,r0,r1,rf0,rf1,a0,a1,af0,af1⟩:=hrel
  by_cases hlt:k<l.length
  ·
   obtain ⟨ad,rfl,hb,hx0,hx1⟩:=(hr.gr hgr).at hlt
   have ht:=addV_take hlt
   have Ht:=Lib.hid ht;clear ht
   go_wp2
   go_still_tail 5,(by kernel_rfl)
   change wpList _ _ _ _ _ wr.drew
   go_wp2_with fail
   refine (plus_any (addV (l.take k)) l[k] _).mono ?_;rintro e w2 ⟨rfl,hg2⟩;have hc2:∀b o,b<wr.heap.size→w2.cell? ⟨b,o,none⟩=wr.cell? ⟨b,o,none⟩:=hg2.cells.1;have hf2:∀b o,b<wr.heap.size→w2.frozen? ⟨b,o,none⟩=wr.frozen? ⟨b,o,none⟩:=hg2.cells.2;have hz2:wr.heap.size≤w2.heap.size:=hg2.size
   have y0:w.heap.size<wr.heap.size:=(by omega)
   have y2:w1.heap.size<w2.heap.size:=(by omega)
   go_wp2
   go_roundw
   case rel=>
    refine ⟨k+1,by omega,by go_num,gq,by simp;omega,by go_simp,by go_simp,by go_simp,by go_simp,?_,?_,by go_simp,by go_simp⟩
    ·
     rw[Ht.out];go_simp
    ·
     rw[Ht.out];go_simp
   case measure=>simp[intOf];omega
  ·
   have hkk:k=l.length:=by omega
   subst hkk
   rw[List.take_length] at a0 a1
   go_wp2
   exact bodyPost_ret (v:= .agg #[.bool (addV l).ok, .int .i64 (addV l).n]) (by simp[results,Tryz.results118,go_sem, *]) rfl ⟨rfl,gq⟩
end Go.Proofs.YtoncapkmaeghfaaGreat
