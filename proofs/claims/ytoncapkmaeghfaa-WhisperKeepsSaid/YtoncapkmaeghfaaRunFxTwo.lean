import Derived.Test.YtoncapkmaeghfaaRunVfFs
import Derived.Test.YtoncapkmaeghfaaRunFxBase
import Derived.Outline
import Derived.Lib.Hide
import Derived.Laws.Bits64b
import Derived.Lib.BitFns
import Derived.Test.YtoncapkmaeghfaaBits
import Derived.BigQuiet
import Derived.Deep.QuietTactic
import Derived.Laws.BitsLemmas
import Derived.Lib.Mul64
set_option linter.all false
set_option maxRecDepth 1000000
set_option maxHeartbeats 12800000
namespace Go.Proofs.Ytoncapkmaeghfaa
open Go.RowKit
theorem sum_any (a b:Vl) (w:World) :
  Calls Try.prog 76 #[.agg #[.bool a.ok, .int .i64 a.n], .agg #[.bool b.ok, .int .i64 b.n]] w fun e w'=>e= .returned (.agg #[.bool (sumV a b).ok, .int .i64 (sumV a b).n])∧Gr w w':=by
 cases ha:knB a
 ·
  have hv:sumV a b=⟨false,0⟩:=by simp[sumV,ha]
  rw[hv];clear hv
  go_enter Try.func76,Try.ntmps76
  go_wp2_with fail
  refine (kn_any a _).mono ?_;rintro e w1 ⟨rfl,hg⟩;obtain ⟨hc,hf⟩:=hg.cells;have hz:=hg.size;(try simp at hz);have z0:w.heap.size<w1.heap.size:=(by omega);have z1:w.heap.size+1<w1.heap.size:=(by omega);have z2:w.heap.size+1+1<w1.heap.size:=(by omega)
  go_wp2
  have q0:w1.cell? ⟨w.heap.size+1+1,0,none⟩=some (.bool false):=by go_simp
  have q1:w1.cell? ⟨w.heap.size+1+1,1,none⟩=some (.int .i64 0):=by go_simp
  exact bodyPost_ret (v:= .agg #[.bool false, .int .i64 0]) (by simp[results,Try.results76,go_sem, *]) rfl ⟨rfl,gq⟩
 cases hb:knB b
 ·
  have hv:sumV a b=⟨false,0⟩:=by simp[sumV,hb]
  rw[hv];clear hv
  go_enter Try.func76,Try.ntmps76
  go_wp2_with fail
  refine (kn_any a _).mono ?_;rintro e w1 ⟨rfl,hg⟩;obtain ⟨hc,hf⟩:=hg.cells;have hz:=hg.size;(try simp at hz);have z0:w.heap.size<w1.heap.size:=(by omega);have z1:w.heap.size+1<w1.heap.size:=(by omega);have z2:w.heap.size+1+1<w1.heap.size:=(by omega)
  go_wp2_with fail
  refine (kn_any b _).mono ?_;rintro e w1 ⟨rfl,hg⟩;obtain ⟨hc,hf⟩:=hg.cells;have hz:=hg.size;(try simp at hz);have z0:w.heap.size<w1.heap.size:=(by omega);have z1:w.heap.size+1<w1.heap.size:=(by omega);have z2:w.heap.size+1+1<w1.heap.size:=(by omega)
  go_wp2
  have q0:w1.cell? ⟨w.heap.size+1+1,0,none⟩=some (.bool false):=by go_simp
  have q1:w1.cell? ⟨w.heap.size+1+1,1,none⟩=some (.int .i64 0):=by go_simp
  exact bodyPost_ret (v:= .agg #[.bool false, .int .i64 0]) (by simp[results,Try.results76,go_sem, *]) rfl ⟨rfl,gq⟩
 have hv:sumV a b=ofV (a.n+b.n):=by simp[sumV,ha,hb]
 rw[hv];clear hv
 have a1:=knB_lo ha
 have a2:=knB_hi ha
 have b1:=knB_lo hb
 have b2:=knB_hi hb
 by_cases hp:0<b.n
 ·
  by_cases ho:4611686018427387904-b.n<a.n
  ·
   have hv:ofV (a.n+b.n)=⟨false,0⟩:=ofV_hi (by omega)
   rw[hv];clear hv
   go_enter Try.func76,Try.ntmps76
   go_wp2_with fail
   refine (kn_any a _).mono ?_;rintro e w1 ⟨rfl,hg⟩;obtain ⟨hc,hf⟩:=hg.cells;have hz:=hg.size;(try simp at hz);have z0:w.heap.size<w1.heap.size:=(by omega);have z1:w.heap.size+1<w1.heap.size:=(by omega);have z2:w.heap.size+1+1<w1.heap.size:=(by omega)
   go_wp2_with fail
   refine (kn_any b _).mono ?_;rintro e w1 ⟨rfl,hg⟩;obtain ⟨hc,hf⟩:=hg.cells;have hz:=hg.size;(try simp at hz);have z0:w.heap.size<w1.heap.size:=(by omega);have z1:w.heap.size+1<w1.heap.size:=(by omega);have z2:w.heap.size+1+1<w1.heap.size:=(by omega)
   go_wp2
   have q0:w1.cell? ⟨w.heap.size+1+1,0,none⟩=some (.bool false):=by go_simp
   have q1:w1.cell? ⟨w.heap.size+1+1,1,none⟩=some (.int .i64 0):=by go_simp
   exact bodyPost_ret (v:= .agg #[.bool false, .int .i64 0]) (by simp[results,Try.results76,go_sem, *]) rfl ⟨rfl,gq⟩
  ·
   have hb0:¬b.n<0:=by omega
   go_enter Try.func76,Try.ntmps76
   go_wp2_with fail
   refine (kn_any a _).mono ?_;rintro e w1 ⟨rfl,hg⟩;obtain ⟨hc,hf⟩:=hg.cells;have hz:=hg.size;(try simp at hz);have z0:w.heap.size<w1.heap.size:=(by omega);have z1:w.heap.size+1<w1.heap.size:=(by omega);have z2:w.heap.size+1+1<w1.heap.size:=(by omega)
   go_wp2_with fail
   refine (kn_any b _).mono ?_;rintro e w1 ⟨rfl,hg⟩;obtain ⟨hc,hf⟩:=hg.cells;have hz:=hg.size;(try simp at hz);have z0:w.heap.size<w1.heap.size:=(by omega);have z1:w.heap.size+1<w1.heap.size:=(by omega);have z2:w.heap.size+1+1<w1.heap.size:=(by omega)
   go_wp2_with fail
   refine (of_any (a.n+b.n) _).mono ?_;rintro e w1 ⟨rfl,hg⟩;obtain ⟨hc,hf⟩:=hg.cells;have hz:=hg.size;(try simp at hz);have z0:w.heap.size<w1.heap.size:=(by omega);have z1:w.heap.size+1<w1.heap.size:=(by omega);have z2:w.heap.size+1+1<w1.heap.size:=(by omega)
   go_wp2
   have q0:w1.cell? ⟨w.heap.size+1+1,0,none⟩=some (.bool false):=by go_simp
   have q1:w1.cell? ⟨w.heap.size+1+1,1,none⟩=some (.int .i64 0):=by go_simp
   exact bodyPost_ret (v:= .agg #[.bool (ofV (a.n+b.n)).ok, .int .i64 (ofV (a.n+b.n)).n]) (by simp[results,Try.results76,go_sem, *]) rfl ⟨rfl,gq⟩
 ·
  by_cases hm:b.n<0
  ·
   by_cases ho:a.n < -4611686018427387904-b.n
   ·
    have hv:ofV (a.n+b.n)=⟨false,0⟩:=ofV_lo (by omega)
    rw[hv];clear hv
    go_enter Try.func76,Try.ntmps76
    go_wp2_with fail
    refine (kn_any a _).mono ?_;rintro e w1 ⟨rfl,hg⟩;obtain ⟨hc,hf⟩:=hg.cells;have hz:=hg.size;(try simp at hz);have z0:w.heap.size<w1.heap.size:=(by omega);have z1:w.heap.size+1<w1.heap.size:=(by omega);have z2:w.heap.size+1+1<w1.heap.size:=(by omega)
    go_wp2_with fail
    refine (kn_any b _).mono ?_;rintro e w1 ⟨rfl,hg⟩;obtain ⟨hc,hf⟩:=hg.cells;have hz:=hg.size;(try simp at hz);have z0:w.heap.size<w1.heap.size:=(by omega);have z1:w.heap.size+1<w1.heap.size:=(by omega);have z2:w.heap.size+1+1<w1.heap.size:=(by omega)
    go_wp2
    have q0:w1.cell? ⟨w.heap.size+1+1,0,none⟩=some (.bool false):=by go_simp
    have q1:w1.cell? ⟨w.heap.size+1+1,1,none⟩=some (.int .i64 0):=by go_simp
    exact bodyPost_ret (v:= .agg #[.bool false, .int .i64 0]) (by simp[results,Try.results76,go_sem, *]) rfl ⟨rfl,gq⟩
   ·
    go_enter Try.func76,Try.ntmps76
    go_wp2_with fail
    refine (kn_any a _).mono ?_;rintro e w1 ⟨rfl,hg⟩;obtain ⟨hc,hf⟩:=hg.cells;have hz:=hg.size;(try simp at hz);have z0:w.heap.size<w1.heap.size:=(by omega);have z1:w.heap.size+1<w1.heap.size:=(by omega);have z2:w.heap.size+1+1<w1.heap.size:=(by omega)
    go_wp2_with fail
    refine (kn_any b _).mono ?_;rintro e w1 ⟨rfl,hg⟩;obtain ⟨hc,hf⟩:=hg.cells;have hz:=hg.size;(try simp at hz);have z0:w.heap.size<w1.heap.size:=(by omega);have z1:w.heap.size+1<w1.heap.size:=(by omega);have z2:w.heap.size+1+1<w1.heap.size:=(by omega)
    go_wp2_with fail
    refine (of_any (a.n+b.n) _).mono ?_;rintro e w1 ⟨rfl,hg⟩;obtain ⟨hc,hf⟩:=hg.cells;have hz:=hg.size;(try simp at hz);have z0:w.heap.size<w1.heap.size:=(by omega);have z1:w.heap.size+1<w1.heap.size:=(by omega);have z2:w.heap.size+1+1<w1.heap.size:=(by omega)
    go_wp2
    have q0:w1.cell? ⟨w.heap.size+1+1,0,none⟩=some (.bool false):=by go_simp
    have q1:w1.cell? ⟨w.heap.size+1+1,1,none⟩=some (.int .i64 0):=by go_simp
    exact bodyPost_ret (v:= .agg #[.bool (ofV (a.n+b.n)).ok, .int .i64 (ofV (a.n+b.n)).n]) (by simp[results,Try.results76,go_sem, *]) rfl ⟨rfl,gq⟩
  ·
   go_enter Try.func76,Try.ntmps76
   go_wp2_with fail
   refine (kn_any a _).mono ?_;rintro e w1 ⟨rfl,hg⟩;obtain ⟨hc,hf⟩:=hg.cells;have hz:=hg.size;(try simp at hz);have z0:w.heap.size<w1.heap.size:=(by omega);have z1:w.heap.size+1<w1.heap.size:=(by omega);have z2:w.heap.size+1+1<w1.heap.size:=(by omega)
   go_wp2_with fail
   refine (kn_any b _).mono ?_;rintro e w1 ⟨rfl,hg⟩;obtain ⟨hc,hf⟩:=hg.cells;have hz:=hg.size;(try simp at hz);have z0:w.heap.size<w1.heap.size:=(by omega);have z1:w.heap.size+1<w1.heap.size:=(by omega);have z2:w.heap.size+1+1<w1.heap.size:=(by omega)
   go_wp2_with fail
   refine (of_any (a.n+b.n) _).mono ?_;rintro e w1 ⟨rfl,hg⟩;obtain ⟨hc,hf⟩:=hg.cells;have hz:=hg.size;(try simp at hz);have z0:w.heap.size<w1.heap.size:=(by omega);have z1:w.heap.size+1<w1.heap.size:=(by omega);have z2:w.heap.size+1+1<w1.heap.size:=(by omega)
   go_wp2
   have q0:w1.cell? ⟨w.heap.size+1+1,0,none⟩=some (.bool false):=by go_simp
   have q1:w1.cell? ⟨w.heap.size+1+1,1,none⟩=some (.int .i64 0):=by go_simp
   exact bodyPost_ret (v:= .agg #[.bool (ofV (a.n+b.n)).ok, .int .i64 (ofV (a.n+b.n)).n]) (by simp[results,Try.results76,go_sem, *]) rfl ⟨rfl,gq⟩
theorem less_any (a b:Vl) (w:World) :
  Calls Try.prog 75 #[.agg #[.bool a.ok, .int .i64 a.n], .agg #[.bool b.ok, .int .i64 b.n]] w fun e w'=>e= .returned (.bool (lessB a b))∧Gr w w':=by
 cases ha:knB a
 ·
  have hv:lessB a b=false:=by simp[lessB,ha]
  rw[hv];clear hv
  go_enter Try.func75,Try.ntmps75
  go_wp2_with fail
  refine (kn_any a _).mono ?_;rintro e w1 ⟨rfl,hg⟩;obtain ⟨hc,hf⟩:=hg.cells;have hz:=hg.size;(try simp at hz);have z0:w.heap.size<w1.heap.size:=(by omega);have z1:w.heap.size+1<w1.heap.size:=(by omega)
  go_wp2
  go_ret
  exact ⟨rfl,gq⟩
 cases hb:knB b
 ·
  have hv:lessB a b=false:=by simp[lessB,hb]
  rw[hv];clear hv
  go_enter Try.func75,Try.ntmps75
  go_wp2_with fail
  refine (kn_any a _).mono ?_;rintro e w1 ⟨rfl,hg⟩;obtain ⟨hc,hf⟩:=hg.cells;have hz:=hg.size;(try simp at hz);have z0:w.heap.size<w1.heap.size:=(by omega);have z1:w.heap.size+1<w1.heap.size:=(by omega)
  go_wp2_with fail
  refine (kn_any b _).mono ?_;rintro e w1 ⟨rfl,hg⟩;obtain ⟨hc,hf⟩:=hg.cells;have hz:=hg.size;(try simp at hz);have z0:w.heap.size<w1.heap.size:=(by omega);have z1:w.heap.size+1<w1.heap.size:=(by omega)
  go_wp2
  go_ret
  exact ⟨rfl,gq⟩
 have hv:lessB a b=decide (a.n<b.n):=by simp[lessB,ha,hb]
 rw[hv];clear hv
 go_enter Try.func75,Try.ntmps75
 go_wp2_with fail
 refine (kn_any a _).mono ?_;rintro e w1 ⟨rfl,hg⟩;obtain ⟨hc,hf⟩:=hg.cells;have hz:=hg.size;(try simp at hz);have z0:w.heap.size<w1.heap.size:=(by omega);have z1:w.heap.size+1<w1.heap.size:=(by omega)
 go_wp2_with fail
 refine (kn_any b _).mono ?_;rintro e w1 ⟨rfl,hg⟩;obtain ⟨hc,hf⟩:=hg.cells;have hz:=hg.size;(try simp at hz);have z0:w.heap.size<w1.heap.size:=(by omega);have z1:w.heap.size+1<w1.heap.size:=(by omega)
 go_wp2
 go_ret
 exact ⟨rfl,gq⟩
theorem addV_take {l:List Vl} {k:Nat} (h:k<l.length):addV (l.take (k+1))=sumV (addV (l.take k)) l[k]:=by
 unfold addV
 rw[List.take_succ_eq_append_getElem h,List.foldl_append]
 rfl
theorem add_any (A:Option Addr) (c:Nat) (l:List Vl) (w:World) (hl:l.length≤maxLen) (hr:Rv w A l) :
  Calls Try.prog 72 #[.slice A l.length c] w fun e w'=>e= .returned (.agg #[.bool (addV l).ok, .int .i64 (addV l).n])∧Gr w w':=by
 unfold maxLen at hl
 go_enter Try.func72,Try.ntmps72
 go_wp2_with fail
 refine (of_any 0 _).mono ?_;rintro e w1 ⟨rfl,hg⟩;obtain ⟨hc,hf⟩:=hg.cells;have hz:=hg.size;(try simp at hz);have z0:w.heap.size<w1.heap.size:=(by omega)
 go_wp2
 go_loopw [9] (fun i wr=>∃k:Nat,k≤l.length∧i= .int .i64 k∧Gr w wr∧w1.heap.size<wr.heap.size∧
   wr.cell? ⟨w.heap.size,0,none⟩=some (.bool false)∧wr.cell? ⟨w.heap.size,1,none⟩=some (.int .i64 0)∧wr.frozen? ⟨w.heap.size,0,none⟩=false∧wr.frozen? ⟨w.heap.size,1,none⟩=false∧
   wr.cell? ⟨w1.heap.size,0,none⟩=some (.bool (addV (l.take k)).ok)∧wr.cell? ⟨w1.heap.size,1,none⟩=some (.int .i64 (addV (l.take k)).n)∧
   wr.frozen? ⟨w1.heap.size,0,none⟩=false∧wr.frozen? ⟨w1.heap.size,1,none⟩=false)
  (fun i _=>l.length-(intOf i).toNat)
 case atStart=>exact ⟨0,Nat.zero_le _,rfl,gq,by simp,by go_simp,by go_simp,by go_simp,by go_simp,by go_simp;rfl,by go_simp;rfl,by go_simp,by go_simp⟩
 case round=>
  obtain ⟨k,hk,rfl,hgr,hzr,r0,r1,rf0,rf1,a0,a1,af0,af1⟩:=hrel
  by_cases hlt:k<l.length
  ·
   obtain ⟨ad,rfl,hb,hx0,hx1⟩:=(hr.gr hgr).at hlt
   have ht:=addV_take hlt
   have Ht:=Lib.hid ht;clear ht
   go_wp2_with fail
   refine (sum_any (addV (l.take k)) l[k] _).mono ?_;rintro e w2 ⟨rfl,hg2⟩;obtain ⟨hc2,hf2⟩:=hg2.cells;have hz2:=hg2.size;(try simp at hz2)
   have y0:w.heap.size<wr.heap.size+1:=(by omega)
   have y1:w1.heap.size<wr.heap.size+1:=(by omega)
   have y2:w1.heap.size<w2.heap.size:=(by omega)
   have y3:w.heap.size<wr.heap.size:=(by omega)
   go_wp2
   go_roundw
   case rel=>
    refine ⟨k+1,by omega,by go_num,gq,by simp;omega,by go_simp,by go_simp,by go_simp,by go_simp,?_,?_,by go_simp,by go_simp⟩
    ·
     rw[Ht.out];go_simp
    ·
     rw[Ht.out];go_simp
   case measure=>simp[intOf];omega
  ·
   have hkk:k=l.length:=by omega
   subst hkk
   rw[List.take_length] at a0 a1
   go_wp2
   exact bodyPost_ret (v:= .agg #[.bool (addV l).ok, .int .i64 (addV l).n]) (by simp[results,Try.results72,go_sem, *]) rfl ⟨rfl,gq⟩
namespace Kn
theorem T_lt {Y u un:Nat} (hY:0<Y) (hu:u<Y) (hun:un<4294967296):(u*4294967296+un)/Y<4294967296:=by
 rw[Nat.div_lt_iff_lt_mul hY]
 have:(u+1)*4294967296≤Y*4294967296:=Nat.mul_le_mul_right _ hu
 omega
theorem mulY {Y a b q:Nat} (h:Y=a*4294967296+b):q*Y=q*a*4294967296+q*b:=by
 rw[h,Nat.mul_add,Nat.mul_assoc]
theorem init_le {Y a b u un:Nat} (h:Y=a*4294967296+b) (ha:0<a) (hun:un<4294967296):(u*4294967296+un)/Y≤u/a:=by
 have hY:0<Y:=by omega
 rw[Nat.le_div_iff_mul_le ha]
 have h1:=Nat.div_mul_le_self (u*4294967296+un) Y
 rw[mulY h] at h1
 omega
theorem dec {Y a b u un q r:Nat} (h:Y=a*4294967296+b) (hu:u<Y) (hun:un<4294967296) (hq:u=q*a+r)
  (hT:(u*4294967296+un)/Y≤q) (ht:4294967296≤q∨4294967296*r+un<q*b) :
  1≤q∧(u*4294967296+un)/Y≤q-1∧u=(q-1)*a+(r+a):=by
 have hY:0<Y:=by omega
 have hlt:(u*4294967296+un)/Y<q:=by
  rcases ht with ht|ht
  ·
   exact Nat.lt_of_lt_of_le (T_lt hY hu hun) ht
  ·
   rw[Nat.div_lt_iff_lt_mul hY,mulY h];omega
 generalize (u*4294967296+un)/Y=T at *
 refine ⟨by omega,by omega,?_⟩
 obtain ⟨k,rfl⟩:∃k,q=k+1:=⟨q-1,by omega⟩
 rw[Nat.add_mul] at hq
 simp only[Nat.add_sub_cancel]
 omega
theorem exit1 {Y a b u un q r:Nat} (h:Y=a*4294967296+b) (ha:0<a) (hq:u=q*a+r) (hT:(u*4294967296+un)/Y≤q) (ht:q*b≤4294967296*r+un):q=(u*4294967296+un)/Y:=by
 have hY:0<Y:=by omega
 refine Nat.le_antisymm ?_ hT
 rw[Nat.le_div_iff_mul_le hY,mulY h];omega
theorem exit2 {Y a b u un q r:Nat} (h:Y=a*4294967296+b) (ha:0<a) (hb:b<4294967296) (hu:u<Y) (hq:u=q*a+r) (hT:(u*4294967296+un)/Y≤q) (ht:4294967296≤r):q=(u*4294967296+un)/Y:=by
 have hq':q<4294967296:=by
  rcases Nat.lt_or_ge q 4294967296 with h1|h1
  ·
   exact h1
  ·
   have:4294967296*a≤q*a:=Nat.mul_le_mul_right _ h1
   omega
 refine exit1 h ha hq hT ?_
 have h2:q*b≤4294967296*4294967296:=Nat.mul_le_mul (by omega) (by omega)
 have h3:4294967296*4294967296≤4294967296*r:=Nat.mul_le_mul_left _ ht
 omega
theorem rem_eq {Y N:Nat}:N-N/Y*Y=N%Y:=by
 have:=Nat.div_add_mod N Y
 rw[Nat.mul_comm] at this
 omega
theorem two_ {Y M b:Nat} (hY:0<Y):(M*4294967296+b)/Y=M/Y*4294967296+(M%Y*4294967296+b)/Y∧(M*4294967296+b)%Y=(M%Y*4294967296+b)%Y:=by
 have hd:=Nat.div_add_mod M Y
 have e2:M*4294967296+b=(M%Y*4294967296+b)+Y*(M/Y*4294967296):=by
  rw[←Nat.mul_assoc]
  generalize Y*(M/Y)=Z at *
  omega
 have d1:=Nat.add_mul_div_left (M%Y*4294967296+b) (M/Y*4294967296) hY
 have d2:=Nat.add_mul_mod_self_left (M%Y*4294967296+b) Y (M/Y*4294967296)
 rw[←e2] at d1 d2
 exact ⟨d1.trans (Nat.add_comm _ _),d2⟩
theorem two {Y u a b:Nat} (hY:0<Y) :
  (u*18446744073709551616+(a*4294967296+b))/Y=(u*4294967296+a)/Y*4294967296+((u*4294967296+a)%Y*4294967296+b)/Y∧
  (u*18446744073709551616+(a*4294967296+b))%Y=((u*4294967296+a)%Y*4294967296+b)%Y:=by
 have e:u*18446744073709551616+(a*4294967296+b)=(u*4294967296+a)*4294967296+b:=by
  rw[Nat.add_mul,Nat.mul_assoc,Nat.add_assoc]
 rw[e]
 exact two_ hY
theorem shifted {P y k:Nat} (hk:0<k):P*k/(y*k)=P/y∧P*k%(y*k)/k=P%y:=by
 refine ⟨Nat.mul_div_mul_right _ _ hk,?_⟩
 rw[Nat.mul_mod_mul_right,Nat.mul_div_cancel _ hk]
theorem un {hi lo y s:Nat} (hs:s≤63) (hlo:lo<18446744073709551616) (hhi:hi<y) (_hy:y*2^s<18446744073709551616) :
  (hi*18446744073709551616+lo)*2^s=(hi*2^s+lo/2^(64-s))*18446744073709551616+lo*2^s%18446744073709551616∧
  hi*2^s+lo/2^(64-s)<y*2^s∧lo/2^(64-s)<2^s:=by
 have e:(18446744073709551616:Nat)=2^(64-s)*2^s:=by rw[←Nat.pow_add];rw[show 64-s+s=64 from by omega]
 have hp:0<2^s:=Nat.pow_pos (by omega)
 have hp':0<2^(64-s):=Nat.pow_pos (by omega)
 have h1:lo/2^(64-s)<2^s:=by
  rw[Nat.div_lt_iff_lt_mul hp',Nat.mul_comm,←e];exact hlo
 have h2:lo*2^s/18446744073709551616=lo/2^(64-s):=by
  rw[e,Nat.mul_div_mul_right _ _ hp]
 have h3:=Nat.div_add_mod (lo*2^s) 18446744073709551616
 rw[h2] at h3
 have h4:(hi+1)*2^s≤y*2^s:=Nat.mul_le_mul_right _ hhi
 rw[Nat.add_mul] at h4
 refine ⟨?_,by omega,h1⟩
 rw[Nat.add_mul,Nat.mul_right_comm]
 generalize hi*2^s=A at *
 generalize lo*2^s=B at *
 generalize lo/2^(64-s)=C at *
 omega
end Kn
theorem bitLen_bd:∀(f x:Nat),x<2^f→f≤64→0<x→2^(Lib.bitLen x-1)≤x∧x<2^Lib.bitLen x∧1≤Lib.bitLen x∧Lib.bitLen x≤f:=by
 intro f
 induction f with
 | zero=>intro x h _ h0;simp at h;omega
 | succ f ih=>
  intro x h hf h0
  have h64:x<2^64:=Nat.lt_of_lt_of_le h (Nat.pow_le_pow_right (by omega) hf)
  have e:=Lib.bitLen_half x (by omega) h64
  rcases Nat.lt_or_ge x 2 with h2|h2
  ·
   have hx:x=1:=by omega
   subst hx
   have e1:Lib.bitLen 1=1:=by decide
   rw[e1]
   exact ⟨by decide,by decide,by decide,by omega⟩
  ·
   have hh:x/2<2^f:=by rw[Nat.pow_succ] at h;omega
   obtain ⟨a1,a2,a3,a4⟩:=ih (x/2) hh (by omega) (by omega)
   rw[e]
   obtain ⟨k,hk⟩:∃k,Lib.bitLen (x/2)=k+1:=⟨Lib.bitLen (x/2)-1,by omega⟩
   rw[hk] at a1 a2 a4 ⊢
   simp only[Nat.add_sub_cancel] at a1
   rw[show 1+(k+1)-1=k+1 from by omega,show 1+(k+1)=k+1+1 from by omega]
   rw[Nat.pow_succ] at a2
   refine ⟨?_,?_,by omega,by omega⟩
   ·
    rw[Nat.pow_succ];omega
   ·
    rw[Nat.pow_succ,Nat.pow_succ];omega
structure Dv (hi lo y s Y a b u d1 d0 L:Nat):Prop where
 e1:IntKind.u64.wrap ((y:Int)*2^s)=(Y:Int)
 e2:(Y:Int)/4294967296=(a:Int)
 e3:bits .and .u64 (Y:Int) 4294967295=(b:Int)
 e4:bits .or .u64 (IntKind.u64.wrap ((hi:Int)*2^s)) ((lo:Int)/2^(64-s))=(u:Int)
 e5:IntKind.u64.wrap ((lo:Int)*2^s)=(L:Int)
 e6:(L:Int)/4294967296=(d1:Int)
 e7:bits .and .u64 (L:Int) 4294967295=(d0:Int)
 hY:Y=a*4294967296+b
 hb:b<4294967296
 ha:a<4294967296
 ha':2147483648≤a
 hu:u<Y
 h1:d1<4294967296
 h0:d0<4294967296
 hN:(hi*18446744073709551616+lo)*2^s=u*18446744073709551616+(d1*4294967296+d0)
 hYs:Y=y*2^s
theorem dv_and (L:Nat) (h:L<18446744073709551616):bits .and .u64 (L:Int) 4294967295=((L%4294967296:Nat):Int):=by
 have h1:=bits_and_u64_nat L 4294967295 h (by omega)
 have e:L &&& 4294967295=L%4294967296:=Nat.and_two_pow_sub_one_eq_mod L 32
 rw[e] at h1
 exact h1
theorem dv_wrap (a:Nat):IntKind.u64.wrap (a:Int)=((a%18446744073709551616:Nat):Int):=by rw[IntKind.wrap_u64];omega
theorem dv_mk (hi lo y s:Nat) (hy:hi<y) (hy64:y<18446744073709551616) (hlo:lo<18446744073709551616) (hs:Lib.bitLen y+s=64) (hs63:s≤63) :
  ∃Y a b u d1 d0 L,Dv hi lo y s Y a b u d1 d0 L:=by
 obtain ⟨c1,c2,c3,c4⟩:=bitLen_bd 64 y (by simpa using hy64) (by omega) (by omega)
 have p64:(2:Nat)^64=18446744073709551616:=by decide
 have hp:0<2^s:=Nat.pow_pos (by omega)
 have hY1:y*2^s<18446744073709551616:=by
  have:y*2^s<2^Lib.bitLen y*2^s:=Nat.mul_lt_mul_of_pos_right c2 hp
  rw[←Nat.pow_add,hs,p64] at this
  exact this
 have hY2:9223372036854775808≤y*2^s:=by
  have:2^(Lib.bitLen y-1)*2^s≤y*2^s:=Nat.mul_le_mul_right _ c1
  rw[←Nat.pow_add,show Lib.bitLen y-1+s=63 from by omega] at this
  exact this
 obtain ⟨n1,n2,n3⟩:=Kn.un hs63 hlo hy hY1
 have cast:∀x:Nat,(x:Int)*2^s=((x*2^s:Nat):Int):=fun x=>by rw[Int.natCast_mul,Int.natCast_pow];rfl
 have castd:(lo:Int)/2^(64-s)=((lo/2^(64-s):Nat):Int):=by rw[Int.natCast_ediv,Int.natCast_pow];rfl
 have hor:hi*2^s ||| lo/2^(64-s)=hi*2^s+lo/2^(64-s):=by
  rw[Nat.mul_comm];exact (Nat.two_pow_add_eq_or_of_lt n3 hi).symm
 refine ⟨y*2^s,y*2^s/4294967296,y*2^s%4294967296,hi*2^s+lo/2^(64-s),lo*2^s%18446744073709551616/4294967296,lo*2^s%18446744073709551616%4294967296,lo*2^s%18446744073709551616,?_⟩
 generalize hYd:y*2^s=Y at *
 generalize hHd:hi*2^s=Hh at *
 generalize hCd:lo/2^(64-s)=C at *
 generalize hLd:lo*2^s=L0 at *
 exact {
  e1:=by rw[cast,hYd,dv_wrap,Nat.mod_eq_of_lt hY1]
  e2:=by omega
  e3:=dv_and Y hY1
  e4:=by
   rw[castd,cast,hHd,dv_wrap,Nat.mod_eq_of_lt (by omega),bits_or_u64_nat Hh C (by omega) (by omega),hor]
  e5:=by rw[cast,hLd,dv_wrap]
  e6:=by omega
  e7:=dv_and _ (by omega)
  hY:=by omega
  hb:=by omega
  ha:=by omega
  ha':=by omega
  hu:=n2
  h1:=by omega
  h0:=by omega
  hN:=by rw[n1];omega
  hYs:=hYd.symm}
structure Dg (Y a b u d T Q M R:Nat):Prop where
 e8:(u:Int)/(a:Int)=(Q:Int)
 e9:IntKind.u64.wrap ((Q:Int)*(a:Int))=(M:Int)
 e10:(u:Int)-(M:Int)=(R:Int)
 hM:M≤u
 hq:u=Q*a+R
 hT:T≤Q
 hQ:Q<8589934592
 hR:R<a
 hTd:T=(u*4294967296+d)/Y
 hTl:T<4294967296
theorem dg_mk {Y a b u d:Nat} (hY:Y=a*4294967296+b) (hb:b<4294967296) (ha:a<4294967296) (ha':2147483648≤a) (hu:u<Y) (hd:d<4294967296):∃T Q M R,Dg Y a b u d T Q M R:=by
 have hm:=Nat.div_add_mod u a
 have hr:=Nat.mod_lt u (show a>0 by omega)
 have hQ:u/a<8589934592:=by
  rw[Nat.div_lt_iff_lt_mul (by omega)]
  have:8589934592*2147483648≤8589934592*a:=Nat.mul_le_mul_left _ ha'
  omega
 have hi:=Kn.init_le (un:=d) (u:=u) hY (by omega) hd
 have hTl:=Kn.T_lt (un:=d) (u:=u) (Y:=Y) (by omega) hu hd
 have c8:(u:Int)/(a:Int)=((u/a:Nat):Int):=(Int.natCast_ediv u a).symm
 have cM:((u/a:Nat):Int)*(a:Int)=((u/a*a:Nat):Int):=(Int.natCast_mul _ _).symm
 have hMu:u/a*a≤u:=Nat.div_mul_le_self u a
 rw[Nat.mul_comm] at hm
 generalize hTd:(u*4294967296+d)/Y=T at *
 generalize hQd:u/a=Q at *
 generalize u%a=R at *
 refine ⟨T,Q,Q*a,R,?_⟩
 exact {e8:=c8,e9:=by rw[cM,dv_wrap,Nat.mod_eq_of_lt (by omega)],e10:=by omega,hM:=hMu,hq:=hm.symm,hT:=hi,hQ:=hQ,hR:=hr,hTd:=hTd.symm,hTl:=hTl}
theorem dg_rem {Y u d T:Nat} (hY64:Y<18446744073709551616) (hY0:0<Y) (hT:T=(u*4294967296+d)/Y) :
  IntKind.u64.wrap (IntKind.u64.wrap (IntKind.u64.wrap ((u:Int)*4294967296)+(d:Int))-IntKind.u64.wrap ((T:Int)*(Y:Int)))=(((u*4294967296+d)%Y:Nat):Int):=by
 have h1:=Kn.rem_eq (Y:=Y) (N:=u*4294967296+d)
 have h2:=Nat.div_mul_le_self (u*4294967296+d) Y
 have h3:=Nat.mod_lt (u*4294967296+d) hY0
 have c:(T:Int)*(Y:Int)=((T*Y:Nat):Int):=(Int.natCast_mul _ _).symm
 rw[←hT] at h1 h2
 rw[c]
 generalize (u*4294967296+d)%Y=M at *
 generalize T*Y=Z at *
 simp only[IntKind.wrap_u64]
 omega
theorem lz_any (y s:Nat) (hy:y<18446744073709551616) (hs:Lib.bitLen y+s=64) (w:World) :
  Calls Try.prog 83 #[.int .u64 y] w fun e w'=>e= .returned (.int .i64 s)∧w=w':=
 (Try.bits_LeadingZeros64 _ _ (by omega) (by omega)).mono fun e w' ⟨he,hw⟩=>⟨by rw[he,Int.toNat_natCast,show (64-(Lib.bitLen y:Int))=(s:Int) from by omega],hw.symm⟩
structure Bd (Y a b u d1 d0 v T T2:Nat):Prop where
 hb:b<4294967296
 ha:a<4294967296
 ha':2147483648≤a
 hu:u<Y
 hv:v<Y
 hd1:d1<4294967296
 hd0:d0<4294967296
theorem dv_end {hi lo y s Y a b u d1 d0 L T T2 v v2:Nat} (D:Dv hi lo y s Y a b u d1 d0 L) (hT:T=(u*4294967296+d1)/Y) (hv:v=(u*4294967296+d1)%Y) (hT2:T2=(v*4294967296+d0)/Y) (hv2:v2=(v*4294967296+d0)%Y) :
  Ending.returned (.tuple #[.int .u64 ((T:Int)*4294967296+(T2:Int)), .int .u64 ((v2:Int)/2^s)]) =
  Ending.returned (.tuple #[.int .u64 (((hi*18446744073709551616+lo)/y:Nat):Int), .int .u64 (((hi*18446744073709551616+lo)%y:Nat):Int)]):=by
 have hY0:0<Y:=Nat.lt_of_le_of_lt (Nat.zero_le _) D.hu
 obtain ⟨k1,k2⟩:=Kn.two (u:=u) (a:=d1) (b:=d0) hY0
 have hp:0<2^s:=Nat.pow_pos (by omega)
 obtain ⟨k3,k4⟩:=Kn.shifted (P:=hi*18446744073709551616+lo) (y:=y) hp
 rw[D.hN,←D.hYs,k1] at k3
 rw[D.hN,←D.hYs,k2] at k4
 rw[←k3,←k4,←hT,←hv,←hT2,←hv2]
 have e:(((v2/2^s:Nat):Int))=(v2:Int)/2^s:=by rw[Int.natCast_ediv,Int.natCast_pow];rfl
 rw[e,Int.natCast_add,Int.natCast_mul]
 rfl
theorem div64_big (hi lo y s:Nat) (h0:0<hi) (hy:hi<y) (hy64:y<18446744073709551616) (hlo:lo<18446744073709551616) (hs:Lib.bitLen y+s=64) (hs63:s≤63) (w:World) :
  Calls Try.prog 82 #[.int .u64 hi, .int .u64 lo, .int .u64 y] w fun e w'=>e= .returned (.tuple #[.int .u64 (((hi*18446744073709551616+lo)/y:Nat):Int), .int .u64 (((hi*18446744073709551616+lo)%y:Nat):Int)])∧w=w':=by
 obtain ⟨Y,a,b,u,d1,d0,L,D⟩:=dv_mk hi lo y s hy hy64 hlo hs hs63
 have HD:=Lib.hid D
 obtain ⟨e1,e2,e3,e4,e5,e6,e7,hY,hb,ha,ha',hu,hd1,hd0, -, -⟩:=D
 have hY64:Y<18446744073709551616:=by omega
 obtain ⟨T,Q,M,R,G⟩:=dg_mk hY hb ha ha' hu hd1
 have HG:=Lib.hid G
 have e11:=dg_rem hY64 (by omega) HG.out.hTd
 have v_lt:(u*4294967296+d1)%Y<Y:=Nat.mod_lt _ (by omega)
 obtain ⟨v,hv⟩:∃v,v=(u*4294967296+d1)%Y:=⟨_,rfl⟩
 rw[←hv] at e11 v_lt
 obtain ⟨T2,Q2,M2,R2,G2⟩:=dg_mk hY hb ha ha' v_lt hd0
 have HG2:=Lib.hid G2
 have e12:=dg_rem hY64 (by omega) HG2.out.hTd
 obtain ⟨v2,hv2⟩:∃v2,v2=(v*4294967296+d0)%Y:=⟨_,rfl⟩
 rw[←hv2] at e12
 have HF:=Lib.hid (dv_end HD.out HG.out.hTd hv HG2.out.hTd hv2)
 have BD:Hid (Bd Y a b u d1 d0 v T T2):=Lib.hid ⟨hb,ha,ha',hu,v_lt,hd1,hd0⟩
 obtain ⟨e8,e9,e10,hMu, -, -,hQ,hR, -,hT32⟩:=G
 obtain ⟨e8',e9',e10',hMu', -, -,hQ',hR', -,hT32'⟩:=G2
 have i1:(T:Int)<4294967296:=by omega
 have i2:(T2:Int)<4294967296:=by omega
 have i3:(M:Int)≤(u:Int):=by omega
 have i4:(M2:Int)≤(v:Int):=by omega
 have i5:(d1:Int)<4294967296:=by omega
 have i6:(d0:Int)<4294967296:=by omega
 have i7:(1:Int)≤(a:Int):=by omega
 have i8:(a:Int)<4294967296:=by omega
 have i9:¬(y:Int)≤(hi:Int):=by omega
 have i10:(Q:Int)<8589934592:=by omega
 have i11:(Q2:Int)<8589934592:=by omega
 have t1:((y:Int)==0)=false:=by simp;omega
 have t2:((hi:Int)==0)=false:=by simp;omega
 have LZ:=lz_any y s hy64 hs
 have j1:(u:Int)<18446744073709551616:=by omega
 have j2:(v:Int)<18446744073709551616:=by omega
 have HY:=Lib.hid hY
 clear hY hs hv hv2 hb ha ha' hu hd1 hd0 v_lt hMu hQ hR hT32 hMu' hQ' hR' hT32' hY64 h0 hy hy64 hlo
 go_enter Try.func82,Try.ntmps82
 go_wp2_with fail
 refine (LZ _).mono ?_;rintro e w' ⟨rfl,rfl⟩
 clear LZ
 go_wp2
 go_loop [15,16] (fun t r'=>∃q r:Nat,t= .int .u64 q∧r'= .int .u64 r∧Hid (u=q*a+r)∧T≤q∧q<8589934592∧r<4294967296) (fun t _=>(intOf t).toNat)
 case atStart=>exact ⟨Q,R,rfl,rfl,HG.out.hq,HG.out.hT,HG.out.hQ,by have:=HG.out.hR;have:=BD.out.ha;omega⟩
 case round=>
  clear e8 e9 e10
  obtain ⟨q,r,rfl,rfl,hq,hTq,hq33,hr⟩:=hrel
  have hq0:(0:Int)≤(q:Int):=by omega
  have hr':(r:Int)<4294967296:=by omega
  have hq2:(q:Int)<8589934592:=by omega
  have K:=Lib.hid (And.intro hTq (And.intro hq33 hr))
  clear hTq hq33 hr
  by_cases hq32:(4294967296:Int)≤(q:Int)
  ·
   obtain ⟨g1,g2,g3⟩:=Kn.dec HY.out BD.out.hu BD.out.hd1 hq.out (by rw[←HG.out.hTd];exact K.out.1) (Or.inl (by omega))
   rw[←HG.out.hTd] at g2
   have G3:=Lib.hid g3;have G2:=Lib.hid g2;clear g3 g2
   by_cases hra:(4294967296:Int)≤(r:Int)+(a:Int)
   ·
    have eT:(q:Int)-1=(T:Int):=by
     have:=Kn.exit2 HY.out (by have:=BD.out.ha';omega) BD.out.hb BD.out.hu G3.out (by rw[←HG.out.hTd];exact G2.out) (by omega)
     rw[←HG.out.hTd] at this;omega
    go_wp2
    go_loop [18,16] (fun t r'=>∃q r:Nat,t= .int .u64 q∧r'= .int .u64 r∧Hid (v=q*a+r)∧T2≤q∧q<8589934592∧r<4294967296) (fun t _=>(intOf t).toNat)
    case atStart=>exact ⟨Q2,R2,rfl,rfl,HG2.out.hq,HG2.out.hT,HG2.out.hQ,by have:=HG2.out.hR;have:=BD.out.ha;omega⟩
    case round=>
     obtain ⟨q,r,rfl,rfl,hq,hTq,hq33,hr⟩:=hrel
     have hq0:(0:Int)≤(q:Int):=by omega
     have hr':(r:Int)<4294967296:=by omega
     have hq2:(q:Int)<8589934592:=by omega
     have K:=Lib.hid (And.intro hTq (And.intro hq33 hr))
     clear hTq hq33 hr
     by_cases hq32:(4294967296:Int)≤(q:Int)
     ·
      obtain ⟨g1,g2,g3⟩:=Kn.dec HY.out BD.out.hv BD.out.hd0 hq.out (by rw[←HG2.out.hTd];exact K.out.1) (Or.inl (by omega))
      rw[←HG2.out.hTd] at g2
      have G3:=Lib.hid g3;have G2:=Lib.hid g2;clear g3 g2
      by_cases hra:(4294967296:Int)≤(r:Int)+(a:Int)
      ·
       have eT:(q:Int)-1=(T2:Int):=by
        have:=Kn.exit2 HY.out (by have:=BD.out.ha';omega) BD.out.hb BD.out.hv G3.out (by rw[←HG2.out.hTd];exact G2.out) (by omega)
        rw[←HG2.out.hTd] at this;omega
       go_wp2
       go_ret2
       exact ⟨HF.out,rfl⟩
      ·
       go_wp2
       go_round
       case rel=>exact ⟨q-1,r+a,by go_num,by go_num,G3.out,G2.out,by have:=K.out;omega,by omega⟩
       case measure=>simp[intOf];omega
     ·
      have c:(q:Int)*(b:Int)=((q*b:Nat):Int):=(Int.natCast_mul _ _).symm
      have eX:IntKind.u64.wrap ((q:Int)*(b:Int))=((q*b:Nat):Int):=by
       have h1:q*b≤4294967295*4294967295:=Nat.mul_le_mul (by omega) (by have:=BD.out.hb;omega)
       rw[c,dv_wrap,Nat.mod_eq_of_lt (by omega)]
      obtain ⟨X,hX⟩:∃X,X=q*b:=⟨_,rfl⟩
      rw[←hX] at eX
      have HX:=Lib.hid hX;clear hX c
      by_cases ht:4294967296*(r:Int)+(d0:Int)<(X:Int)
      ·
       obtain ⟨g1,g2,g3⟩:=Kn.dec HY.out BD.out.hv BD.out.hd0 hq.out (by rw[←HG2.out.hTd];exact K.out.1) (Or.inr (by rw[←HX.out];omega))
       rw[←HG2.out.hTd] at g2
       have G3:=Lib.hid g3;have G2:=Lib.hid g2;clear g3 g2
       by_cases hra:(4294967296:Int)≤(r:Int)+(a:Int)
       ·
        have eT:(q:Int)-1=(T2:Int):=by
         have:=Kn.exit2 HY.out (by have:=BD.out.ha';omega) BD.out.hb BD.out.hv G3.out (by rw[←HG2.out.hTd];exact G2.out) (by omega)
         rw[←HG2.out.hTd] at this;omega
        go_wp2
        go_ret2
        exact ⟨HF.out,rfl⟩
       ·
        go_wp2
        go_round
        case rel=>exact ⟨q-1,r+a,by go_num,by go_num,G3.out,G2.out,by have:=K.out;omega,by omega⟩
        case measure=>simp[intOf];omega
      ·
       obtain rfl:q=T2:=by
        have:=Kn.exit1 HY.out (by have:=BD.out.ha';omega) hq.out (by rw[←HG2.out.hTd];exact K.out.1) (by rw[←HX.out];omega)
        rw[←HG2.out.hTd] at this;exact this
       go_wp2
       go_ret2
       exact ⟨HF.out,rfl⟩
   ·
    go_wp2
    go_round
    case rel=>exact ⟨q-1,r+a,by go_num,by go_num,G3.out,G2.out,by have:=K.out;omega,by omega⟩
    case measure=>simp[intOf];omega
  ·
   have c:(q:Int)*(b:Int)=((q*b:Nat):Int):=(Int.natCast_mul _ _).symm
   have eX:IntKind.u64.wrap ((q:Int)*(b:Int))=((q*b:Nat):Int):=by
    have h1:q*b≤4294967295*4294967295:=Nat.mul_le_mul (by omega) (by have:=BD.out.hb;omega)
    rw[c,dv_wrap,Nat.mod_eq_of_lt (by omega)]
   obtain ⟨X,hX⟩:∃X,X=q*b:=⟨_,rfl⟩
   rw[←hX] at eX
   have HX:=Lib.hid hX;clear hX c
   by_cases ht:4294967296*(r:Int)+(d1:Int)<(X:Int)
   ·
    obtain ⟨g1,g2,g3⟩:=Kn.dec HY.out BD.out.hu BD.out.hd1 hq.out (by rw[←HG.out.hTd];exact K.out.1) (Or.inr (by rw[←HX.out];omega))
    rw[←HG.out.hTd] at g2
    have G3:=Lib.hid g3;have G2:=Lib.hid g2;clear g3 g2
    by_cases hra:(4294967296:Int)≤(r:Int)+(a:Int)
    ·
     have eT:(q:Int)-1=(T:Int):=by
      have:=Kn.exit2 HY.out (by have:=BD.out.ha';omega) BD.out.hb BD.out.hu G3.out (by rw[←HG.out.hTd];exact G2.out) (by omega)
      rw[←HG.out.hTd] at this;omega
     go_wp2
     go_loop [18,16] (fun t r'=>∃q r:Nat,t= .int .u64 q∧r'= .int .u64 r∧Hid (v=q*a+r)∧T2≤q∧q<8589934592∧r<4294967296) (fun t _=>(intOf t).toNat)
     case atStart=>exact ⟨Q2,R2,rfl,rfl,HG2.out.hq,HG2.out.hT,HG2.out.hQ,by have:=HG2.out.hR;have:=BD.out.ha;omega⟩
     case round=>
      obtain ⟨q,r,rfl,rfl,hq,hTq,hq33,hr⟩:=hrel
      have hq0:(0:Int)≤(q:Int):=by omega
      have hr':(r:Int)<4294967296:=by omega
      have hq2:(q:Int)<8589934592:=by omega
      have K:=Lib.hid (And.intro hTq (And.intro hq33 hr))
      clear hTq hq33 hr
      by_cases hq32:(4294967296:Int)≤(q:Int)
      ·
       obtain ⟨g1,g2,g3⟩:=Kn.dec HY.out BD.out.hv BD.out.hd0 hq.out (by rw[←HG2.out.hTd];exact K.out.1) (Or.inl (by omega))
       rw[←HG2.out.hTd] at g2
       have G3:=Lib.hid g3;have G2:=Lib.hid g2;clear g3 g2
       by_cases hra:(4294967296:Int)≤(r:Int)+(a:Int)
       ·
        have eT:(q:Int)-1=(T2:Int):=by
         have:=Kn.exit2 HY.out (by have:=BD.out.ha';omega) BD.out.hb BD.out.hv G3.out (by rw[←HG2.out.hTd];exact G2.out) (by omega)
         rw[←HG2.out.hTd] at this;omega
        go_wp2
        go_ret2
        exact ⟨HF.out,rfl⟩
       ·
        go_wp2
        go_round
        case rel=>exact ⟨q-1,r+a,by go_num,by go_num,G3.out,G2.out,by have:=K.out;omega,by omega⟩
        case measure=>simp[intOf];omega
      ·
       have c:(q:Int)*(b:Int)=((q*b:Nat):Int):=(Int.natCast_mul _ _).symm
       have eX:IntKind.u64.wrap ((q:Int)*(b:Int))=((q*b:Nat):Int):=by
        have h1:q*b≤4294967295*4294967295:=Nat.mul_le_mul (by omega) (by have:=BD.out.hb;omega)
        rw[c,dv_wrap,Nat.mod_eq_of_lt (by omega)]
       obtain ⟨X,hX⟩:∃X,X=q*b:=⟨_,rfl⟩
       rw[←hX] at eX
       have HX:=Lib.hid hX;clear hX c
       by_cases ht:4294967296*(r:Int)+(d0:Int)<(X:Int)
       ·
        obtain ⟨g1,g2,g3⟩:=Kn.dec HY.out BD.out.hv BD.out.hd0 hq.out (by rw[←HG2.out.hTd];exact K.out.1) (Or.inr (by rw[←HX.out];omega))
        rw[←HG2.out.hTd] at g2
        have G3:=Lib.hid g3;have G2:=Lib.hid g2;clear g3 g2
        by_cases hra:(4294967296:Int)≤(r:Int)+(a:Int)
        ·
         have eT:(q:Int)-1=(T2:Int):=by
          have:=Kn.exit2 HY.out (by have:=BD.out.ha';omega) BD.out.hb BD.out.hv G3.out (by rw[←HG2.out.hTd];exact G2.out) (by omega)
          rw[←HG2.out.hTd] at this;omega
         go_wp2
         go_ret2
         exact ⟨HF.out,rfl⟩
        ·
         go_wp2
         go_round
         case rel=>exact ⟨q-1,r+a,by go_num,by go_num,G3.out,G2.out,by have:=K.out;omega,by omega⟩
         case measure=>simp[intOf];omega
       ·
        obtain rfl:q=T2:=by
         have:=Kn.exit1 HY.out (by have:=BD.out.ha';omega) hq.out (by rw[←HG2.out.hTd];exact K.out.1) (by rw[←HX.out];omega)
         rw[←HG2.out.hTd] at this;exact this
        go_wp2
        go_ret2
        exact ⟨HF.out,rfl⟩
    ·
     go_wp2
     go_round
     case rel=>exact ⟨q-1,r+a,by go_num,by go_num,G3.out,G2.out,by have:=K.out;omega,by omega⟩
     case measure=>simp[intOf];omega
   ·
    obtain rfl:q=T:=by
     have:=Kn.exit1 HY.out (by have:=BD.out.ha';omega) hq.out (by rw[←HG.out.hTd];exact K.out.1) (by rw[←HX.out];omega)
     rw[←HG.out.hTd] at this;exact this
    go_wp2
    go_loop [18,16] (fun t r'=>∃q r:Nat,t= .int .u64 q∧r'= .int .u64 r∧Hid (v=q*a+r)∧T2≤q∧q<8589934592∧r<4294967296) (fun t _=>(intOf t).toNat)
    case atStart=>exact ⟨Q2,R2,rfl,rfl,HG2.out.hq,HG2.out.hT,HG2.out.hQ,by have:=HG2.out.hR;have:=BD.out.ha;omega⟩
    case round=>
     obtain ⟨q,r,rfl,rfl,hq,hTq,hq33,hr⟩:=hrel
     have hq0:(0:Int)≤(q:Int):=by omega
     have hr':(r:Int)<4294967296:=by omega
     have hq2:(q:Int)<8589934592:=by omega
     have K:=Lib.hid (And.intro hTq (And.intro hq33 hr))
     clear hTq hq33 hr
     by_cases hq32:(4294967296:Int)≤(q:Int)
     ·
      obtain ⟨g1,g2,g3⟩:=Kn.dec HY.out BD.out.hv BD.out.hd0 hq.out (by rw[←HG2.out.hTd];exact K.out.1) (Or.inl (by omega))
      rw[←HG2.out.hTd] at g2
      have G3:=Lib.hid g3;have G2:=Lib.hid g2;clear g3 g2
      by_cases hra:(4294967296:Int)≤(r:Int)+(a:Int)
      ·
       have eT:(q:Int)-1=(T2:Int):=by
        have:=Kn.exit2 HY.out (by have:=BD.out.ha';omega) BD.out.hb BD.out.hv G3.out (by rw[←HG2.out.hTd];exact G2.out) (by omega)
        rw[←HG2.out.hTd] at this;omega
       go_wp2
       go_ret2
       exact ⟨HF.out,rfl⟩
      ·
       go_wp2
       go_round
       case rel=>exact ⟨q-1,r+a,by go_num,by go_num,G3.out,G2.out,by have:=K.out;omega,by omega⟩
       case measure=>simp[intOf];omega
     ·
      have c:(q:Int)*(b:Int)=((q*b:Nat):Int):=(Int.natCast_mul _ _).symm
      have eX:IntKind.u64.wrap ((q:Int)*(b:Int))=((q*b:Nat):Int):=by
       have h1:q*b≤4294967295*4294967295:=Nat.mul_le_mul (by omega) (by have:=BD.out.hb;omega)
       rw[c,dv_wrap,Nat.mod_eq_of_lt (by omega)]
      obtain ⟨X,hX⟩:∃X,X=q*b:=⟨_,rfl⟩
      rw[←hX] at eX
      have HX:=Lib.hid hX;clear hX c
      by_cases ht:4294967296*(r:Int)+(d0:Int)<(X:Int)
      ·
       obtain ⟨g1,g2,g3⟩:=Kn.dec HY.out BD.out.hv BD.out.hd0 hq.out (by rw[←HG2.out.hTd];exact K.out.1) (Or.inr (by rw[←HX.out];omega))
       rw[←HG2.out.hTd] at g2
       have G3:=Lib.hid g3;have G2:=Lib.hid g2;clear g3 g2
       by_cases hra:(4294967296:Int)≤(r:Int)+(a:Int)
       ·
        have eT:(q:Int)-1=(T2:Int):=by
         have:=Kn.exit2 HY.out (by have:=BD.out.ha';omega) BD.out.hb BD.out.hv G3.out (by rw[←HG2.out.hTd];exact G2.out) (by omega)
         rw[←HG2.out.hTd] at this;omega
        go_wp2
        go_ret2
        exact ⟨HF.out,rfl⟩
       ·
        go_wp2
        go_round
        case rel=>exact ⟨q-1,r+a,by go_num,by go_num,G3.out,G2.out,by have:=K.out;omega,by omega⟩
        case measure=>simp[intOf];omega
      ·
       obtain rfl:q=T2:=by
        have:=Kn.exit1 HY.out (by have:=BD.out.ha';omega) hq.out (by rw[←HG2.out.hTd];exact K.out.1) (by rw[←HX.out];omega)
        rw[←HG2.out.hTd] at this;exact this
       go_wp2
       go_ret2
       exact ⟨HF.out,rfl⟩
theorem div64_small (lo y:Nat) (h0:0<y) (hy64:y<18446744073709551616) (hlo:lo<18446744073709551616) (w:World) :
  Calls Try.prog 82 #[.int .u64 0, .int .u64 lo, .int .u64 y] w fun e w'=>e= .returned (.tuple #[.int .u64 ((lo/y:Nat):Int), .int .u64 ((lo%y:Nat):Int)])∧∃n,w'=w.drewN n:=by
 have t1:((y:Int)==0)=false:=by simp;omega
 have i1:(1:Int)≤(y:Int):=by omega
 have i2:(y:Int)≤18446744073709551615:=by omega
 have i3:(lo:Int)≤18446744073709551615:=by omega
 have i4:¬(y:Int)≤0:=by omega
 have c1:((lo/y:Nat):Int)=(lo:Int)/(y:Int):=Int.natCast_ediv lo y
 have c2:((lo%y:Nat):Int)=(lo:Int)%(y:Int):=Int.natCast_emod lo y
 have eW:IntKind.u64.wrap ((lo:Int)/(y:Int))=(lo:Int)/(y:Int):=by
  have:=Nat.div_le_self lo y
  rw[←c1,dv_wrap,Nat.mod_eq_of_lt (by omega)]
 rw[c1,c2]
 clear c1 c2 h0 hy64 hlo
 go_enter Try.func82,Try.ntmps82
 go_wp2
 go_quiet (fail)
 go_wp2
 go_ret2
 exact ⟨rfl,_,rfl⟩
theorem Gr.drewN {a w:World} (h:Gr a w) (n:Nat):Gr a (w.drewN n):=⟨h.os,h.tape,h.output,h.size,h.block⟩
theorem div64_any (hi lo y:Nat) (hy:hi<y) (hy64:y<18446744073709551616) (hlo:lo<18446744073709551616) (w:World) :
  Calls Try.prog 82 #[.int .u64 hi, .int .u64 lo, .int .u64 y] w fun e w'=>e= .returned (.tuple #[.int .u64 (((hi*18446744073709551616+lo)/y:Nat):Int), .int .u64 (((hi*18446744073709551616+lo)%y:Nat):Int)])∧Gr w w':=by
 rcases Nat.eq_zero_or_pos hi with h0|h0
 ·
  subst h0
  refine (div64_small lo y hy hy64 hlo w).mono fun e w' ⟨he,n,hw⟩=>?_
  subst hw
  rw[Nat.zero_mul,Nat.zero_add]
  exact ⟨he,(Gr.refl w).drewN n⟩
 ·
  obtain ⟨c1,c2,c3,c4⟩:=bitLen_bd 64 y (by simpa using hy64) (by omega) (by omega)
  obtain ⟨s,hs⟩:∃s,Lib.bitLen y+s=64:=⟨64-Lib.bitLen y,by omega⟩
  refine (div64_big hi lo y s h0 hy hy64 hlo hs (by omega) w).mono fun e w' ⟨he,hw⟩=>?_
  subst hw
  exact ⟨he,Gr.refl w⟩
theorem wrap_i64 (n:Int):IntKind.i64.wrap n=(n+9223372036854775808)%18446744073709551616-9223372036854775808:=IntKind.wrap_i64 n
theorem size_any (n:Int) (h1: -9223372036854775808≤n) (h2:n≤9223372036854775807) (w:World) :
  Calls Try.prog 80 #[.int .i64 n] w fun e w'=>e= .returned (.int .u64 (n.natAbs:Int))∧w=w':=by
 by_cases h0:n<0
 ·
  have e1:IntKind.u64.wrap (-IntKind.u64.wrap n)=(n.natAbs:Int):=by simp only[IntKind.wrap_u64];omega
  have E1:=Lib.hid e1;clear e1
  go_enter Try.func80,Try.ntmps80
  go_wp2
  go_ret
  exact ⟨by first|rfl|(rw[E1.out];rfl),rfl⟩
 ·
  have e1:(n.natAbs:Int)=n:=by omega
  have E1:=Lib.hid e1;clear e1
  have h3:0≤n:=by omega
  go_enter Try.func80,Try.ntmps80
  go_wp2
  go_ret
  exact ⟨by first|rfl|(rw[E1.out];rfl),rfl⟩
theorem mul64_any (x y:Nat) (hx:x<18446744073709551616) (hy:y<18446744073709551616) (w:World) :
  Calls Try.prog 81 #[.int .u64 x, .int .u64 y] w fun e w'=>e= .returned (.tuple #[.int .u64 ((x*y/18446744073709551616:Nat):Int), .int .u64 ((x*y%18446744073709551616:Nat):Int)])∧w=w':=
 (Try.bits_Mul64 x y hx hy w).mono fun _ _ ⟨he,hw⟩=>⟨he,hw.symm⟩
def rq (P d:Nat):Nat:=P/d+(if d-P%d≤P%d then 1 else 0)
def mdOk (a b c:Int):Bool:= !(c==0)&&decide (rq (a.natAbs*b.natAbs) c.natAbs≤4611686018427387904)
def mdNeg (a b c:Int):Bool:=(decide (a<0) != decide (b<0)) != decide (c<0)
def mdN (a b c:Int):Int:=
 bif mdOk a b c then (bif mdNeg a b c then -(rq (a.natAbs*b.natAbs) c.natAbs:Int) else (rq (a.natAbs*b.natAbs) c.natAbs:Int)) else 0
theorem rq_up {P d:Nat} (h:d-P%d≤P%d):rq P d=P/d+1:=by unfold rq;rw[if_pos h]
theorem rq_dn {P d:Nat} (h:¬d-P%d≤P%d):rq P d=P/d:=by unfold rq;rw[if_neg h,Nat.add_zero]
theorem rq_ge (P d:Nat):P/d≤rq P d:=by unfold rq;split<;>omega
theorem mdOk_no {a b c:Int} (h:4611686018427387904<rq (a.natAbs*b.natAbs) c.natAbs):mdOk a b c=false:=by
 have:¬rq (a.natAbs*b.natAbs) c.natAbs≤4611686018427387904:=by omega
 simp[mdOk,this]
theorem mdOk_yes {a b c:Int} (hc:c≠0) (h:rq (a.natAbs*b.natAbs) c.natAbs≤4611686018427387904):mdOk a b c=true:=by
 simp[mdOk,h,hc]
def mdE (a b c:Int):Ending:= .returned (.tuple #[.int .i64 (mdN a b c), .bool (mdOk a b c)])
theorem md_no {a b c:Int} (h:mdOk a b c=false):Ending.returned (.tuple #[.int .i64 0, .bool false])=mdE a b c:=by
 simp[mdE,mdN,h]
theorem md_neg {a b c q:Int} (h:mdOk a b c=true) (hn:mdNeg a b c=true) (hq:(rq (a.natAbs*b.natAbs) c.natAbs:Int)=q):Ending.returned (.tuple #[.int .i64 (-q), .bool true])=mdE a b c:=by
 simp[mdE,mdN,h,hn,hq]
theorem md_pos {a b c q:Int} (h:mdOk a b c=true) (hn:mdNeg a b c=false) (hq:(rq (a.natAbs*b.natAbs) c.natAbs:Int)=q):Ending.returned (.tuple #[.int .i64 q, .bool true])=mdE a b c:=by
 simp[mdE,mdN,h,hn,hq]
theorem muldiv_any (a b c:Int) (ha1: -9223372036854775808≤a) (ha2:a≤9223372036854775807) (hb1: -9223372036854775808≤b) (hb2:b≤9223372036854775807) (hc1: -9223372036854775808≤c) (hc2:c≤9223372036854775807) (w:World) :
  Calls Try.prog 79 #[.int .i64 a, .int .i64 b, .int .i64 c] w fun e w'=>e=mdE a b c∧Gr w w':=by
 by_cases hc0:c=0
 ·
  subst hc0
  have E:=Lib.hid (md_no (a:=a) (b:=b) (c:=0) (by simp[mdOk]))
  go_enter Try.func79,Try.ntmps79
  go_wp2
  go_ret2
  exact ⟨E.out,Gr.refl _⟩
 have hP1:a.natAbs*b.natAbs≤9223372036854775808*9223372036854775808:=Nat.mul_le_mul (by omega) (by omega)
 have t0:(c==0)=false:=by simp[hc0]
 have sa':=size_any a ha1 ha2
 have sb':=size_any b hb1 hb2
 have sc':=size_any c hc1 hc2
 have sm':=mul64_any a.natAbs b.natAbs (by omega) (by omega)
 obtain ⟨A,hA⟩:∃A,A=a.natAbs:=⟨_,rfl⟩
 obtain ⟨B,hB⟩:∃B,B=b.natAbs:=⟨_,rfl⟩
 obtain ⟨d,hd⟩:∃d,d=c.natAbs:=⟨_,rfl⟩
 obtain ⟨H,hH⟩:∃H,H=A*B/18446744073709551616:=⟨_,rfl⟩
 obtain ⟨L,hL⟩:∃L,L=A*B%18446744073709551616:=⟨_,rfl⟩
 obtain ⟨q,hq⟩:∃q,q=A*B/d:=⟨_,rfl⟩
 obtain ⟨r,hr⟩:∃r,r=A*B%d:=⟨_,rfl⟩
 rw[←hA] at sa' sm' hP1;rw[←hB] at sb' sm' hP1;rw[←hd] at sc';rw[←hH,←hL] at sm'
 have hPeq:H*18446744073709551616+L=A*B:=by omega
 have hd0:1≤d:=by omega
 have hd63:d≤9223372036854775808:=by omega
 have hr1:r<d:=by rw[hr];exact Nat.mod_lt _ hd0
 have hL1:L<18446744073709551616:=by omega
 have sa:=Lib.hid sa';have sb:=Lib.hid sb';have sc:=Lib.hid sc';have sm:=Lib.hid sm'
 have i1:(H:Int)≤18446744073709551615:=by omega
 have i2:(L:Int)≤18446744073709551615:=by omega
 have i3:(d:Int)≤9223372036854775808:=by omega
 have i4:(1:Int)≤(d:Int):=by omega
 have i5:(r:Int)<(d:Int):=by omega
 by_cases hh:(d:Int)≤(H:Int)
 ·
  have hqq:18446744073709551616≤A*B/d:=by rw[Nat.le_div_iff_mul_le hd0];have:d*18446744073709551616≤H*18446744073709551616:=Nat.mul_le_mul_right _ (by omega);omega
  have E:=Lib.hid (md_no (a:=a) (b:=b) (c:=c) (mdOk_no (by have:=rq_ge (A*B) d;rw[←hA,←hB,←hd];omega)))
  clear hqq
  clear sa' sb' sc' sm' hP1 hc0 hA hB hd hH hL hq hr hPeq hd0 hd63 hr1 hL1
  go_enter Try.func79,Try.ntmps79
  go_wp2_with fail
  refine (sc.out _).mono ?_;rintro e w1 ⟨rfl,rfl⟩
  go_wp2_with fail
  refine (sa.out _).mono ?_;rintro e w1 ⟨rfl,rfl⟩
  go_wp2_with fail
  refine (sb.out _).mono ?_;rintro e w1 ⟨rfl,rfl⟩
  go_wp2_with fail
  refine (sm.out _).mono ?_;rintro e w1 ⟨rfl,rfl⟩
  go_wp2
  go_ret2
  exact ⟨E.out,gq⟩
 have hHd:H<d:=by omega
 have sd':=fun w=>div64_any H L d hHd (by omega) hL1 w
 rw[hPeq,←hq,←hr] at sd'
 have hq64:q<18446744073709551616:=by
  rw[hq,Nat.div_lt_iff_lt_mul hd0,←hPeq]
  have:(H+1)*18446744073709551616≤d*18446744073709551616:=Nat.mul_le_mul_right _ hHd
  omega
 have i6:(q:Int)≤18446744073709551615:=by omega
 have sd:=Lib.hid sd'
 clear sd'
 by_cases h1:(4611686018427387904:Int)<(q:Int)
 ·
  have E:=Lib.hid (md_no (a:=a) (b:=b) (c:=c) (mdOk_no (by have:=rq_ge (A*B) d;rw[←hA,←hB,←hd];omega)))
  clear sa' sb' sc' sm' hP1 hc0 hA hB hd hH hL hq hr hPeq hd0 hd63 hr1 hL1 hHd hq64
  go_enter Try.func79,Try.ntmps79
  go_wp2_with fail
  refine (sc.out _).mono ?_;rintro e w1 ⟨rfl,rfl⟩
  go_wp2_with fail
  refine (sa.out _).mono ?_;rintro e w1 ⟨rfl,rfl⟩
  go_wp2_with fail
  refine (sb.out _).mono ?_;rintro e w1 ⟨rfl,rfl⟩
  go_wp2_with fail
  refine (sm.out _).mono ?_;rintro e w1 ⟨rfl,rfl⟩
  go_wp2_with fail
  refine (sd.out _).mono ?_;rintro e w1 ⟨rfl,hg⟩
  go_wp2
  go_ret2
  exact ⟨E.out,gq⟩
 by_cases h2:(d:Int)-(r:Int)≤(r:Int)
 ·
  have hup:=rq_up (P:=A*B) (d:=d) (by omega)
  rw[←hq] at hup
  obtain ⟨q1,hq1⟩:∃q1,q1=q+1:=⟨_,rfl⟩
  have eQ:(q:Int)+1=(q1:Int):=by omega
  have j0:(q1:Int)≤18446744073709551615:=by omega
  by_cases h3:(4611686018427387904:Int)<(q1:Int)
  ·
   have E:=Lib.hid (md_no (a:=a) (b:=b) (c:=c) (mdOk_no (by rw[←hA,←hB,←hd];omega)))
   clear hup hq1
   clear sa' sb' sc' sm' hP1 hc0 hA hB hd hH hL hq hr hPeq hd0 hd63 hr1 hL1 hHd hq64
   go_enter Try.func79,Try.ntmps79
   go_wp2_with fail
   refine (sc.out _).mono ?_;rintro e w1 ⟨rfl,rfl⟩
   go_wp2_with fail
   refine (sa.out _).mono ?_;rintro e w1 ⟨rfl,rfl⟩
   go_wp2_with fail
   refine (sb.out _).mono ?_;rintro e w1 ⟨rfl,rfl⟩
   go_wp2_with fail
   refine (sm.out _).mono ?_;rintro e w1 ⟨rfl,rfl⟩
   go_wp2_with fail
   refine (sd.out _).mono ?_;rintro e w1 ⟨rfl,hg⟩
   go_wp2
   go_ret2
   exact ⟨E.out,gq⟩
  have hok:=mdOk_yes (a:=a) (b:=b) (c:=c) hc0 (by rw[←hA,←hB,←hd];omega)
  cases hn:(!((!(decide (a<0)==decide (b<0)))==decide (c<0)))
  ·
   have E:=Lib.hid (md_pos (a:=a) (b:=b) (c:=c) (q:=(q1:Int)) hok hn (by rw[←hA,←hB,←hd];omega))
   clear hup hok hq1
   clear sa' sb' sc' sm' hP1 hc0 hA hB hd hH hL hq hr hPeq hd0 hd63 hr1 hL1 hHd hq64
   go_enter Try.func79,Try.ntmps79
   go_wp2_with fail
   refine (sc.out _).mono ?_;rintro e w1 ⟨rfl,rfl⟩
   go_wp2_with fail
   refine (sa.out _).mono ?_;rintro e w1 ⟨rfl,rfl⟩
   go_wp2_with fail
   refine (sb.out _).mono ?_;rintro e w1 ⟨rfl,rfl⟩
   go_wp2_with fail
   refine (sm.out _).mono ?_;rintro e w1 ⟨rfl,rfl⟩
   go_wp2_with fail
   refine (sd.out _).mono ?_;rintro e w1 ⟨rfl,hg⟩
   go_wp2
   go_ret2
   exact ⟨E.out,gq⟩
  ·
   have E:=Lib.hid (md_neg (a:=a) (b:=b) (c:=c) (q:=(q1:Int)) hok hn (by rw[←hA,←hB,←hd];omega))
   clear hup hok hq1
   clear sa' sb' sc' sm' hP1 hc0 hA hB hd hH hL hq hr hPeq hd0 hd63 hr1 hL1 hHd hq64
   go_enter Try.func79,Try.ntmps79
   go_wp2_with fail
   refine (sc.out _).mono ?_;rintro e w1 ⟨rfl,rfl⟩
   go_wp2_with fail
   refine (sa.out _).mono ?_;rintro e w1 ⟨rfl,rfl⟩
   go_wp2_with fail
   refine (sb.out _).mono ?_;rintro e w1 ⟨rfl,rfl⟩
   go_wp2_with fail
   refine (sm.out _).mono ?_;rintro e w1 ⟨rfl,rfl⟩
   go_wp2_with fail
   refine (sd.out _).mono ?_;rintro e w1 ⟨rfl,hg⟩
   go_wp2
   go_ret2
   exact ⟨E.out,gq⟩
 ·
  have hup:=rq_dn (P:=A*B) (d:=d) (by omega)
  rw[←hq] at hup
  have hok:=mdOk_yes (a:=a) (b:=b) (c:=c) hc0 (by rw[←hA,←hB,←hd];omega)
  cases hn:(!((!(decide (a<0)==decide (b<0)))==decide (c<0)))
  ·
   have E:=Lib.hid (md_pos (a:=a) (b:=b) (c:=c) (q:=(q:Int)) hok hn (by rw[←hA,←hB,←hd];omega))
   clear hup hok
   clear sa' sb' sc' sm' hP1 hc0 hA hB hd hH hL hq hr hPeq hd0 hd63 hr1 hL1 hHd hq64
   go_enter Try.func79,Try.ntmps79
   go_wp2_with fail
   refine (sc.out _).mono ?_;rintro e w1 ⟨rfl,rfl⟩
   go_wp2_with fail
   refine (sa.out _).mono ?_;rintro e w1 ⟨rfl,rfl⟩
   go_wp2_with fail
   refine (sb.out _).mono ?_;rintro e w1 ⟨rfl,rfl⟩
   go_wp2_with fail
   refine (sm.out _).mono ?_;rintro e w1 ⟨rfl,rfl⟩
   go_wp2_with fail
   refine (sd.out _).mono ?_;rintro e w1 ⟨rfl,hg⟩
   go_wp2
   go_ret2
   exact ⟨E.out,gq⟩
  ·
   have E:=Lib.hid (md_neg (a:=a) (b:=b) (c:=c) (q:=(q:Int)) hok hn (by rw[←hA,←hB,←hd];omega))
   clear hup hok
   clear sa' sb' sc' sm' hP1 hc0 hA hB hd hH hL hq hr hPeq hd0 hd63 hr1 hL1 hHd hq64
   go_enter Try.func79,Try.ntmps79
   go_wp2_with fail
   refine (sc.out _).mono ?_;rintro e w1 ⟨rfl,rfl⟩
   go_wp2_with fail
   refine (sa.out _).mono ?_;rintro e w1 ⟨rfl,rfl⟩
   go_wp2_with fail
   refine (sb.out _).mono ?_;rintro e w1 ⟨rfl,rfl⟩
   go_wp2_with fail
   refine (sm.out _).mono ?_;rintro e w1 ⟨rfl,rfl⟩
   go_wp2_with fail
   refine (sd.out _).mono ?_;rintro e w1 ⟨rfl,hg⟩
   go_wp2
   go_ret2
   exact ⟨E.out,gq⟩
theorem step_mod (T d b:Nat) (hd:0<d) (hb:b<2) :
  (2*T+b)%d=(if d≤2*(T%d)+b then 2*(T%d)+b-d else 2*(T%d)+b)∧
  (2*T+b)/d=2*(T/d)+(if d≤2*(T%d)+b then 1 else 0):=by
 have h1:=Nat.mod_lt T hd
 have h2:=Nat.div_add_mod T d
 have e:2*T+b=(2*(T%d)+b)+d*(2*(T/d)):=by
  rw[←Nat.mul_assoc,Nat.mul_comm d 2,Nat.mul_assoc];omega
 rw[e,Nat.add_mul_mod_self_left,Nat.add_mul_div_left _ _ hd]
 by_cases h:d≤2*(T%d)+b
 ·
  rw[if_pos h,if_pos h,Nat.mod_eq_sub_mod h,Nat.mod_eq_of_lt (by omega),Nat.div_eq_sub_div hd h,Nat.div_eq_of_lt (by omega)]
  exact ⟨rfl,by omega⟩
 ·
  rw[if_neg h,if_neg h,Nat.mod_eq_of_lt (by omega),Nat.div_eq_of_lt (by omega)]
  exact ⟨rfl,by omega⟩
structure Ld (P d k q r:Nat) (over:Bool):Prop where
 hq:q=P/2^k/d%18446744073709551616
 hr:r=P/2^k%d
 ho:over=decide (9223372036854775808≤P/2^k/d)
theorem Ld.start {P d:Nat} (h:P<2^128):Ld P d 128 0 0 false:=by
 have e:P/2^128=0:=Nat.div_eq_of_lt h
 exact {hq:=by rw[e];simp,hr:=by rw[e];simp,ho:=by rw[e];simp}
theorem pow_step (P k:Nat):P/2^k=2*(P/2^(k+1))+P/2^k%2:=by
 rw[Nat.pow_succ,←Nat.div_div_eq_div_mul];omega
theorem Ld.over {P d k q r:Nat} {o:Bool} (h:Ld P d (k+1) q r o) (hd:0<d):(o||decide (4611686018427387904≤q))=decide (9223372036854775808≤P/2^k/d):=by
 have hs:=pow_step P k
 have hb:P/2^k%2<2:=Nat.mod_lt _ (by omega)
 obtain ⟨_,s2⟩:=step_mod (P/2^(k+1)) d (P/2^k%2) hd hb
 rw[←hs] at s2
 have h1:=h.hq
 have h2:=h.ho
 have hc:(if d≤2*(P/2^(k+1)%d)+P/2^k%2 then 1 else 0:Nat)≤1:=by split<;>omega
 generalize (if d≤2*(P/2^(k+1)%d)+P/2^k%2 then 1 else 0:Nat)=c at *
 generalize P/2^(k+1)/d=Q at *
 generalize P/2^k/d=Q' at *
 rw[h2,Bool.eq_iff_iff]
 simp only[Bool.or_eq_true,decide_eq_true_eq]
 omega
theorem Ld.yes {P d k q r:Nat} {o:Bool} (h:Ld P d (k+1) q r o) (hd:0<d) (hx:d≤2*r+P/2^k%2) :
  Ld P d k (q*2%18446744073709551616+1) (2*r+P/2^k%2-d) (o||decide (4611686018427387904≤q)):=by
 have ho:=h.over hd
 have hs:=pow_step P k
 have hb:P/2^k%2<2:=Nat.mod_lt _ (by omega)
 obtain ⟨s1,s2⟩:=step_mod (P/2^(k+1)) d (P/2^k%2) hd hb
 have h1:=h.hq
 have h2:=h.hr
 rw[←hs,←h2,if_pos hx] at s1 s2
 refine {hq:=?_,hr:=s1.symm,ho:=ho}
 rw[s2,h1]
 generalize P/2^(k+1)/d=Q at *
 omega
theorem Ld.no {P d k q r:Nat} {o:Bool} (h:Ld P d (k+1) q r o) (hd:0<d) (hx:¬d≤2*r+P/2^k%2) :
  Ld P d k (q*2%18446744073709551616) (2*r+P/2^k%2) (o||decide (4611686018427387904≤q)):=by
 have ho:=h.over hd
 have hs:=pow_step P k
 have hb:P/2^k%2<2:=Nat.mod_lt _ (by omega)
 obtain ⟨s1,s2⟩:=step_mod (P/2^(k+1)) d (P/2^k%2) hd hb
 have h1:=h.hq
 have h2:=h.hr
 rw[←hs,←h2,if_neg hx] at s1 s2
 refine {hq:=?_,hr:=s1.symm,ho:=ho}
 rw[s2,h1]
 generalize P/2^(k+1)/d=Q at *
 omega
end Go.Proofs.Ytoncapkmaeghfaa
