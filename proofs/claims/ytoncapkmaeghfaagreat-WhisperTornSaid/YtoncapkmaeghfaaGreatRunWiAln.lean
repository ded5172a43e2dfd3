import Derived.Test.YtoncapkmaeghfaaGreatRunFxBase
import Derived.Test.YtoncapkmaeghfaaGreatRunWiHdr
import Derived.Test.YtoncapkmaeghfaaGreatRunRwDo
import Derived.Test.YtoncapkmaeghfaaGreatRunRwDec
import Derived.Test.YtoncapkmaeghfaaGreatRunRwWri
import Derived.Test.YtoncapkmaeghfaaGreatRunWhDecH
import Derived.Test.YtoncapkmaeghfaaGreatRunWhWri
import Derived.Test.YtoncapkmaeghfaaGreatRunFxMul
set_option linter.all false
set_option maxRecDepth 1000000
set_option maxHeartbeats 12800000
namespace Go.Proofs.YtoncapkmaeghfaaGreat
open Go.RowKit
theorem ralign_any (t step:Int) (ht:t≤9223372036854775807) (w:World):Calls Tryz.prog 76 #[.int .i64 t, .int .i64 step] w fun e w'=>e= .returned (.int .i64 (alignS t step))∧w=w':=by
 by_cases h1:step<1
 ·
  have e:alignS t step=t:=by unfold alignS;rw[if_pos (.inl h1)]
  rw[e]
  go_enter Tryz.func76,Tryz.ntmps76
  go_wp2
  go_ret
  exact ⟨rfl,rfl⟩
 ·
  by_cases h2:t<0
  ·
   have e:alignS t step=t:=by unfold alignS;rw[if_pos (.inr h2)]
   rw[e]
   go_enter Tryz.func76,Tryz.ntmps76
   go_wp2
   go_ret
   exact ⟨rfl,rfl⟩
  ·
   have e:alignS t step=t-t%step:=alignS_of (by omega) (by omega)
   have hm:t.tmod step=t%step:=Int.tmod_eq_emod_of_nonneg (by omega)
   have h3:0≤t%step:=Int.emod_nonneg _ (by omega)
   have h4:t%step≤t:=emod_le' (by omega) (by omega)
   have hz:¬step=0:=by omega
   have hw:wrap64 (t-t%step)=t-t%step:=IntWalk.wrap64_in _ (by omega)
   rw[e]
   go_enter Tryz.func76,Tryz.ntmps76
   go_wp2
   go_ret
   exact ⟨rfl,rfl⟩
theorem rplace_any (step count t:Int) (ht:t≤9223372036854775807) (hs:step≤9223372036854775807) (hc:count≤9223372036854775807) (w:World):Calls Tryz.prog 66 #[.agg #[.int .i64 step, .int .i64 count], .int .i64 t] w fun e w'=>e= .returned (.int .i64 (placeS step count t))∧Gr w w':=by
 by_cases h1:step<1
 ·
  have e:placeS step count t=0:=by unfold placeS;rw[if_pos (.inl h1)]
  rw[e]
  go_enter Tryz.func66,Tryz.ntmps66
  go_wp2
  go_ret
  exact ⟨rfl,Gr.alloc (Gr.refl w) _⟩
 ·
  by_cases h2:count<1
  ·
   have e:placeS step count t=0:=by unfold placeS;rw[if_pos (.inr (.inl h2))]
   rw[e]
   go_enter Tryz.func66,Tryz.ntmps66
   go_wp2
   go_ret
   exact ⟨rfl,Gr.alloc (Gr.refl w) _⟩
  ·
   by_cases h3:t<0
   ·
    have e:placeS step count t=0:=by unfold placeS;rw[if_pos (.inr (.inr h3))]
    rw[e]
    go_enter Tryz.func66,Tryz.ntmps66
    go_wp2
    go_ret
    exact ⟨rfl,Gr.alloc (Gr.refl w) _⟩
   ·
    have e:placeS step count t=t/step%count:=placeS_of (by omega) (by omega) (by omega)
    have hd:t.tdiv step=t/step:=Int.tdiv_eq_ediv_of_nonneg (by omega)
    have hq:0≤t/step:=Int.ediv_nonneg (by omega) (by omega)
    have hm:(t/step).tmod count=t/step%count:=Int.tmod_eq_emod_of_nonneg hq
    have hz:¬step=0:=by omega
    have hzc:¬count=0:=by omega
    have hle:t/step≤t:=Int.ediv_le_self _ (by omega)
    have hw1:IntKind.i64.wrap (t/step)=t/step:=IntWalk.i64_in _ (by omega)
    have hr0:0≤t/step%count:=Int.emod_nonneg _ (by omega)
    have hr1:t/step%count<count:=Int.emod_lt_of_pos _ (by omega)
    have hw2:IntKind.i64.wrap (t/step%count)=t/step%count:=IntWalk.i64_in _ (by omega)
    rw[e]
    go_enter Tryz.func66,Tryz.ntmps66
    go_upto_region 3 with (fail)
    have b0:(w.alloc (.cells #[.int .i64 step, .int .i64 count] 69)).cell? ⟨w.heap.size,0,none⟩=some (.int .i64 step):=by go_simp
    have b1:(w.alloc (.cells #[.int .i64 step, .int .i64 count] 69)).cell? ⟨w.heap.size,1,none⟩=some (.int .i64 count):=by go_simp
    refine region_Q (by kernel_rfl) (by kernel_rfl) ?_
    iterate 2 (refine qv ?_;simp only[Pu])
    refine q_val (v:=?qv3) (by rfl) (fun W hW=>?qh3) ?qr3
    case qh3=>have g:=(Below.cell hW (p:=⟨w.heap.size,0,none⟩) (by show w.heap.size<_;simp)).trans b0;go_simp;rfl
    simp only[Pu]
    iterate 2 (refine qv ?_;simp only[Pu])
    refine q_val (v:=?qv6) (by rfl) (fun W hW=>?qh6) ?qr6
    case qh6=>have g:=(Below.cell hW (p:=⟨w.heap.size,1,none⟩) (by show w.heap.size<_;simp)).trans b1;go_simp;rfl
    simp only[Pu]
    iterate 2 (refine qv ?_;simp only[Pu])
    refine wpQuiet_nil ?_
    intro w8 hw8
    have g8:Gr w w8:=(Gr.alloc (Gr.refl w) _).trans hw8
    clear hw8 b0 b1
    go_wp2
    go_ret
    exact ⟨rfl,g8⟩
theorem align_div {t s:Int} (hs:1≤s) (ht:0≤t):alignS t s=s*(t/s):=by
 rw[alignS_of hs ht]
 have:=Int.mul_ediv_add_emod t s
 omega
theorem align_le {t s:Int} (hs:1≤s) (ht:0≤t):0≤alignS t s∧alignS t s≤t∧t<alignS t s+s:=by
 rw[alignS_of hs ht]
 have h1:=Int.emod_nonneg t (b:=s) (by omega)
 have h2:=Int.emod_lt_of_pos t (b:=s) (by omega)
 have h3:=emod_le' ht hs
 omega
theorem place_align {s c t:Int} (hs:1≤s) (hc:1≤c) (ht:0≤t):placeS s c (alignS t s)=placeS s c t:=by
 have h:=align_le hs ht
 rw[placeS_of hs hc h.1,placeS_of hs hc ht,align_div hs ht,Int.mul_ediv_cancel_left _ (by omega)]
theorem pS_align {m:Arcs} (hF:MayF m) {i:Nat} (hi:i<m.length) {t:Int} (ht:0≤t):pS m i (alignS t (stpS m i))=pS m i t:=by
 unfold pS
 rw[place_align (by have:=(hF.s1 i hi).1;omega) (by have:=(hF.c1 i hi).1;omega) ht]
theorem RsM.more {Y Y':Nat→Prop} {w w':World} {X:Nat} {R:Option Nat} {room:Int} {n:Nat} {D:Option (List UInt8)} (h:RsM Y w X R room n D) (g:Gr w w') (h1:∀k,Y' k→Y k∨w.heap.size≤k) (h2:∀k,Y' k→k<w'.heap.size):RsM Y' w' X R room n D:=by
 have h':=h.gr g
 obtain ⟨v,v1,v2⟩:=h.x1
 refine ⟨h'.lX,h'.x0,⟨v,(Below.cell g (p:=⟨X,1,none⟩) h.lX).trans v1,?_⟩,h'.x2,h'.x3,h'.z1,h'.z2,h'.z3,h'.rX,fun e=>?_,fun k hk e=>?_,h2⟩
 ·
  exact ((v2.imp (Q':=fun g=>g≠X∧R≠some g∧¬Y' g) (fun k hk hq=>⟨hq.1,hq.2.1,fun e=>by rcases h1 k e with e|e;exact hq.2.2 e;omega⟩)).kp (Kp.of_gr (fun _=>False) g) (fun _ _ _ h=>h))
 ·
  rcases h1 X e with e|e
  ·
   exact h.nY e
  ·
   have:=h.lX;omega
 ·
  rcases h1 k e with e|e
  ·
   exact h.rY k hk e
  ·
   have:=h.lR k hk;omega
theorem RsM.weak {Y Y':Nat→Prop} {w:World} {X:Nat} {R:Option Nat} {room:Int} {n:Nat} {D:Option (List UInt8)} (h:RsM Y w X R room n D) (h1:∀k,Y' k→Y k):RsM Y' w X R room n D:=
 h.more (Gr.refl w) (fun k e=> .inl (h1 k e)) (fun k e=>h.yl k (h1 k e))
def Bx (B:Nat) (A:Option Addr) (k:Nat):Prop:=k=B∨∃ad,A=some ad∧ad.block=k
structure XfM (Y:Nat→Prop) (w:World) (B X:Nat) (R:Option Nat) (room:Int) (n ag xf:Nat) (A:Option Addr) (c:Nat) (m:Arcs) (D:List UInt8):Prop where
 bc:w.cell? ⟨B,0,none⟩=some (.pointer (some ⟨X,0,none⟩))∧w.cell? ⟨B,1,none⟩=some (.string nmA)∧w.cell? ⟨B,2,none⟩=some (.int .i64 (ag:Nat))∧w.cell? ⟨B,3,none⟩=some (.int .i64 (xf:Nat))∧w.cell? ⟨B,4,none⟩=some (.slice A m.length c)
 ri:Ri w A (ints m)
 may:mayH ag xf (ints m)=true
 cap:m.length≤c
 len:D.length=sizeS m
 fs:RsM (fun k=>Y k∨Bx B A k) w X R room n (some D)
theorem XfM.lB {Y:Nat→Prop} {B X:Nat} {R:Option Nat} {room:Int} {n ag xf:Nat} {A:Option Addr} {c:Nat} {m:Arcs} {D:List UInt8} {w:World} (h:XfM Y w B X R room n ag xf A c m D):B<w.heap.size:=h.fs.yl B (.inr (.inl rfl))
theorem XfM.turn {Y:Nat→Prop} {B X:Nat} {R:Option Nat} {room:Int} {n ag xf:Nat} {A:Option Addr} {c:Nat} {m:Arcs} {D:List UInt8} {w w':World} (h:XfM Y w B X R room n ag xf A c m D) {R':Option Nat} {n':Nat} {D':List UInt8} (k:Kp (Xch X R) w w') (hf:RsM (fun k=>Y k∨Bx B A k) w' X R' room n' (some D')) (hl:D'.length=D.length):XfM Y w' B X R' room n' ag xf A c m D':=by
 have hn:∀q,Bx B A q→¬Xch X R q:=fun q hq e=>by
  rcases e with e|e
  ·
   subst e;exact h.fs.nY (.inr hq)
  ·
   exact h.fs.rY q e (.inr hq)
 have lB:=h.lB
 have nB:=hn B (.inl rfl)
 obtain ⟨b0,b1,b2,b3,b4⟩:=h.bc
 refine ⟨⟨(k.cell (a:=⟨B,0,none⟩) lB nB).trans b0,(k.cell (a:=⟨B,1,none⟩) lB nB).trans b1,(k.cell (a:=⟨B,2,none⟩) lB nB).trans b2,(k.cell (a:=⟨B,3,none⟩) lB nB).trans b3,(k.cell (a:=⟨B,4,none⟩) lB nB).trans b4⟩,fun h0=>?_,h.may,h.cap,hl.trans h.len,hf⟩
 obtain ⟨ad,e,hb,hc⟩:=h.ri h0
 have na:∀z,¬Xch X R (ad.add z).block:=fun z=>by rw[adB];exact hn _ (.inr ⟨ad,e,rfl⟩)
 have la:∀z,(ad.add z).block<w.heap.size:=fun z=>by rw[adB];exact hb
 exact ⟨ad,e,Nat.lt_of_lt_of_le hb k.size,fun j hj=>⟨(k.cell (a:=ad.add (j*2)) (la _) (na _)).trans (hc j hj).1,(k.cell (a:=⟨(ad.add (j*2)).block,(ad.add (j*2)).off+1,none⟩) (la _) (na _)).trans (hc j hj).2⟩⟩
theorem XfM.gr {Y:Nat→Prop} {B X:Nat} {R:Option Nat} {room:Int} {n ag xf:Nat} {A:Option Addr} {c:Nat} {m:Arcs} {D:List UInt8} {w w':World} (h:XfM Y w B X R room n ag xf A c m D) (g:Gr w w'):XfM Y w' B X R room n ag xf A c m D:=h.turn (Kp.of_gr _ g) (h.fs.gr g) rfl
theorem xat_any {Y:Nat→Prop} {B X:Nat} {R:Option Nat} {room:Int} {n ag xf:Nat} {A:Option Addr} {c:Nat} {m:Arcs} {D:List UInt8} (i:Nat) (hi:i<m.length) (t:Int) (ht:t≤9223372036854775807) (w:World) (h:XfM Y w B X R room n ag xf A c m D):Calls Tryz.prog 97 #[.pointer (some ⟨B,0,none⟩), .int .i64 i, .int .i64 t] w fun e w'=>e= .returned (.int .i64 (atS m i t:Nat))∧Gr w w':=by
 obtain ⟨b0,b1,b2,b3,b4⟩:=h.bc
 have lB:=h.lB
 have hF:=MayF.ofH h.may
 have hmi:(i:Int)<(m.length:Int):=by omega
 have hm8:(m.length:Int)≤8:=by have:=hF.l8;omega
 have hst:=hF.s1 i hi
 have hct:=hF.c1 i hi
 obtain ⟨ad,hAd,hb,hc⟩:=h.ri (by rw[ints_len];omega)
 obtain ⟨p0,p1⟩:=hc i (by rw[ints_len];exact hi)
 rw[ints_at m i hi] at p0 p1
 simp only at p0 p1
 rw[←stpS_at hi] at p0
 rw[←cntS_at hi] at p1
 have hbk:∀z,(ad.add z).block<w.heap.size:=fun z=>by rw[adB];exact hb
 have hof:=fun W (g:Gr w W)=>rhoff_any ag xf A c m h.may i hi W (h.ri.gr g)
 have hpl:=fun W=>rplace_any (stpS m i) (cntS m i) t ht (by omega) (by omega) W
 have hlt:=placeS_nat hct.1 t
 have hp0:=placeS_lt (t:=t) (step:=(stpS m i:Int)) (count:=(cntS m i:Int)) (by omega)
 obtain ⟨p,hp⟩:∃p,p=(placeS (stpS m i) (cntS m i) t).toNat:=⟨_,rfl⟩
 rw[show placeS (stpS m i) (cntS m i) t=(p:Int) by omega] at hpl
 have hin:=atS_in hF hi t
 have hsz:=hF.sz
 have heq:atS m i t=offS m i+12*p:=by rw[hp];rfl
 obtain ⟨of,hof2⟩:∃of,of=offS m i:=⟨_,rfl⟩
 rw[←hof2] at hof heq
 rw[heq]
 have w1:IntKind.i64.wrap (12*(p:Int))=12*(p:Int):=IntWalk.i64_in _ (by omega)
 have w2:IntKind.i64.wrap ((of:Int)+12*(p:Int))=((of+12*p:Nat):Int):=by rw[IntWalk.i64_in _ (by omega)];omega
 have HOF:=Lib.hid hof
 have HPL:=Lib.hid hpl
 subst hAd
 clear h hc hb hF hst hct hof hpl hlt hp0 hp hin hsz heq hof2 ht
 go_enter Tryz.func97,Tryz.ntmps97
 go_upto_region 1 with (fail)
 refine region_R (by kernel_rfl) (by kernel_rfl) ?_
 iterate 3 (refine rv ?_;simp only[Pu])
 refine r_val (v:=?qv4) (by kernel_rfl) (fun W hW=>?qh4) ?qr4
 case qh4=>have e2:=(Below.cell hW (p:=⟨B,2,none⟩) lB).trans b2;have e3:=(Below.cell hW (p:=⟨B,3,none⟩) lB).trans b3;have e4:=(Below.cell hW (p:=⟨B,4,none⟩) lB).trans b4;go_light;go_simp;rfl
 simp only[Pu]
 refine rv ?_;simp only[Pu]
 refine r_call (v:= .int .i64 (of:Nat)) (f:=?qf6) (args:=?qa6) (by kernel_rfl) (fun W hW=>?qh6) (fun W hW=>?qc6) ?qr6
 case qh6=>go_light;go_simp;constructor<;>rfl
 case qc6=>exact (HOF.out W hW).mono (fun e w' h=>⟨h.1,Gr.trans hW h.2⟩)
 simp only[Pu]
 iterate 4 (refine rv ?_;simp only[Pu])
 refine r_val (v:=?qv11) (by kernel_rfl) (fun W hW=>?qh11) ?qr11
 case qh11=>have e4:=(Below.cell hW (p:=⟨B,4,none⟩) lB).trans b4;go_light;go_simp;rfl
 simp only[Pu]
 iterate 2 (refine rv ?_;simp only[Pu])
 refine r_val (v:=?qv14) (by kernel_rfl) (fun W hW=>?qh14) ?qr14
 case qh14=>have e5:=(Below.cell hW (p:=ad.add (i*2)) (hbk _)).trans p0;have e6:=(Below.cell hW (p:=⟨(ad.add (i*2)).block,(ad.add (i*2)).off+1,none⟩) (hbk _)).trans p1;go_light;go_simp;rfl
 simp only[Pu]
 refine rv ?_;simp only[Pu]
 refine r_call (v:= .int .i64 (p:Nat)) (f:=?qf16) (args:=?qa16) (by kernel_rfl) (fun W hW=>?qh16) (fun W hW=>?qc16) ?qr16
 case qh16=>go_light;go_simp;constructor<;>rfl
 case qc16=>exact (HPL.out W).mono (fun e w' h=>⟨h.1,Gr.trans hW h.2⟩)
 simp only[Pu]
 iterate 3 (refine rv ?_;simp only[Pu])
 refine r_nil ?_
 intro w8 hw8
 have H8:=Lib.hid hw8
 clear hw8
 go_wp2
 go_ret
 exact ⟨rfl,H8.out⟩
theorem xval_any {Y:Nat→Prop} {B X:Nat} {R:Option Nat} {room:Int} {n ag xf:Nat} {A:Option Addr} {c:Nat} {m:Arcs} {D:List UInt8} (i:Nat) (hi:i<m.length) (t:Int) (h0:0≤t) (ht:t≤4611686018427387904) (w:World) (h:XfM Y w B X R room n ag xf A c m D):Calls Tryz.prog 77 #[.pointer (some ⟨B,0,none⟩), .int .i64 i, .int .i64 t] w (RetVl (hasV m D i t) w):=by
 obtain ⟨V,hV⟩:∃V,V=w.alloc (.cells #[.bool false, .int .i64 0] 107):=⟨_,rfl⟩
 have gV:Gr w V:=by rw[hV];exact Gr.alloc (Gr.refl w) _
 have zV:w.heap.size<V.heap.size:=by rw[hV];simp
 have v0:V.cell? ⟨w.heap.size,0,none⟩=some (.bool false):=by rw[hV];go_simp
 have v1:V.cell? ⟨w.heap.size,1,none⟩=some (.int .i64 0):=by rw[hV];go_simp
 have f0:V.frozen? ⟨w.heap.size,0,none⟩=false:=by rw[hV];go_simp
 have f1:V.frozen? ⟨w.heap.size,1,none⟩=false:=by rw[hV];go_simp
 have hv:=h.gr gV
 have HV:=Lib.hid hV
 have HGV:=Lib.hid gV
 obtain ⟨b0,b1,b2,b3,b4⟩:=hv.bc
 have lB:=hv.lB
 have hF:=MayF.ofH hv.may
 have hmi:(i:Int)<(m.length:Int):=by omega
 have hm8:(m.length:Int)≤8:=by have:=hF.l8;omega
 have hst:=hF.s1 i hi
 have hct:=hF.c1 i hi
 obtain ⟨ad,hAd,hb,hc⟩:=hv.ri (by rw[ints_len];omega)
 obtain ⟨p0,p1⟩:=hc i (by rw[ints_len];exact hi)
 rw[ints_at m i hi] at p0 p1
 simp only at p0 p1
 rw[←stpS_at hi] at p0
 rw[←cntS_at hi] at p1
 have hbk:∀z,(ad.add z).block<V.heap.size:=fun z=>by rw[adB];exact hb
 have hat:=fun W (g:Gr V W)=>xat_any i hi t (by omega) W (hv.gr g)
 obtain ⟨T,hT⟩:∃T,T=alignS t (stpS m i):=⟨_,rfl⟩
 have hTf:=align_facts (t:=t) (step:=(stpS m i:Int)) (by omega) h0
 have hal:=fun W=>ralign_any t (stpS m i) (by omega) W
 rw[←hT] at hTf hal
 have hpa:=pS_align hF hi h0
 rw[←hT] at hpa
 have hatT:atS m i T=atS m i t:=by rw[atS_eq,atS_eq,hpa]
 have hVal:hasV m D i t=if T<1 then ⟨false,0⟩ else seenS m D i T:=by unfold hasV;rw[←hT]
 have hkin:atS m i t+12≤D.length:=by rw[hv.len];exact (atS_in hF hi t).2
 obtain ⟨k,hk⟩:∃k,k=atS m i t:=⟨_,rfl⟩
 unfold seenS at hVal
 rw[hatT,←hk] at hVal
 rw[←hk] at hat hkin
 have hDl:(D.length:Int)≤1073741824:=by rw[hv.len];have:=hF.sz;omega
 have hrd:=fun W (g:Gr V W)=>xread_part hDl k 12 (by decide) hkin W (hv.gr g).fs
 have hsl:(slotS D k).length=12:=by unfold slotS;rw[List.length_take,List.length_drop];omega
 have hse:(D.drop k).take 12=slotS D k:=rfl
 rw[hse] at hrd
 unfold RetBr at hrd
 rw[hsl] at hrd
 obtain ⟨S,hS⟩:∃S,S=decT (slotS D k):=⟨_,rfl⟩
 obtain ⟨N,hN⟩:∃N,N=decN (slotS D k):=⟨_,rfl⟩
 rw[←hS,←hN] at hVal
 obtain ⟨sl,hsl2⟩:∃sl,sl=slotS D k:=⟨_,rfl⟩
 rw[←hsl2] at hrd hsl hS hN
 have hde:=fun (A2:Option Addr) (c2:Nat) (h12:12≤c2) W (hr:Rb W A2 sl)=>xdec_any A2 c2 sl hsl h12 W hr
 unfold RetPt at hde
 rw[hsl,←hS,←hN] at hde
 have HVAL:=Lib.hid hVal
 have HAT:=Lib.hid hat
 have HRD:=Lib.hid hrd
 have HDE:=Lib.hid hde
 have HAL:=Lib.hid hal
 have HSL:=Lib.hid hsl
 subst hAd
 clear hV gV h hv hc hb hF hst hct hat hrd hde hal hpa hatT hVal hkin hk hDl hse hS hN hsl hsl2 hT
 go_enter Tryz.func77,Tryz.ntmps77
 go_upto_region 1 with (fail)
 rw[←HV.out]
 clear HV
 refine wp_region_Z 17 (fun W=>W.cell? ⟨B,0,none⟩=some (.pointer (some ⟨X,0,none⟩))∧W.cell? ⟨B,1,none⟩=some (.string nmA)) (by kernel_rfl) ?_
 have hS0:(fun W=>W.cell? ⟨B,0,none⟩=some (.pointer (some ⟨X,0,none⟩))∧W.cell? ⟨B,1,none⟩=some (.string nmA)) V.drew:=⟨b0,b1⟩
 have g0:Gr V V.drew:=Gr.drew (Gr.refl _)
 obtain ⟨W0,hW0⟩:∃W0,W0=V.drew:=⟨_,rfl⟩
 rw[←hW0] at hS0 g0 ⊢
 clear hW0
 refine zu 0 rfl hS0 (fun W hS=>by go_simp;rfl) ?_
 refine zu 1 rfl hS0 (fun W hS=>by go_simp;rfl) ?_
 refine zu 2 rfl hS0 (fun W hS=>by go_simp;rfl) ?_
 refine zu 3 rfl hS0 (fun W hS=>by have e0:=hS.1;go_simp;rfl) ?_
 refine zu 4 rfl hS0 (fun W hS=>by go_simp;rfl) ?_
 refine zu 5 rfl hS0 (fun W hS=>by go_simp;rfl) ?_
 refine zu 6 rfl hS0 (fun W hS=>by go_simp;rfl) ?_
 refine zu 7 rfl hS0 (fun W hS=>by have e1:=hS.2;go_simp;rfl) ?_
 refine zu 8 rfl hS0 (fun W hS=>by go_simp;rfl) ?_
 refine zu 9 rfl hS0 (fun W hS=>by go_simp;rfl) ?_
 refine zu 10 rfl hS0 (fun W hS=>by go_simp;rfl) ?_
 refine wpAnyZ_ready (rs:=[11]) (by kernel_rfl) (by simp) ?_
 refine AllReadyZ.cons (i:=11) rfl (by kernel_rfl) ?zx12 AllReadyZ.nil
 intro K hK
 simp only[List.getElem_toArray,List.getElem_cons_succ,List.getElem_cons_zero]
 go_simp
 refine (HAT.out W0 g0).mono ?_;rintro x W1 ⟨rfl,g1⟩
 have lB0:=Nat.lt_of_lt_of_le lB g0.size
 have hS1:(fun W=>W.cell? ⟨B,0,none⟩=some (.pointer (some ⟨X,0,none⟩))∧W.cell? ⟨B,1,none⟩=some (.string nmA)) W1:=⟨(Below.cell g1 (p:=⟨B,0,none⟩) lB0).trans hS0.1,(Below.cell g1 (p:=⟨B,1,none⟩) lB0).trans hS0.2⟩
 go_wp2_with fail
 refine hK.out _ _ (fun hnz=>?zs12) (fun _=>?zr12)
 case zs12=>exact hS1
 clear hK K
 try (simp only[Pu,List.getElem_toArray,List.getElem_cons_succ,List.getElem_cons_zero])
 refine wpAnyZ_ready (rs:=[12]) (by kernel_rfl) (by simp) ?_
 refine AllReadyZ.cons (i:=12) rfl (by kernel_rfl) ?zx13 AllReadyZ.nil
 intro K hK
 simp only[List.getElem_toArray,List.getElem_cons_succ,List.getElem_cons_zero]
 go_simp
 refine (HRD.out W1 (g0.trans g1)).mono ?_;rintro x W2 ⟨A2,c2,rfl,hc2,hr2,g2⟩
 have lB1:=Nat.lt_of_lt_of_le lB0 g1.size
 have hS2:(fun W=>W.cell? ⟨B,0,none⟩=some (.pointer (some ⟨X,0,none⟩))∧W.cell? ⟨B,1,none⟩=some (.string nmA)) W2:=⟨(Below.cell g2 (p:=⟨B,0,none⟩) lB1).trans hS1.1,(Below.cell g2 (p:=⟨B,1,none⟩) lB1).trans hS1.2⟩
 have HG2:=Lib.hid (g0.trans (g1.trans g2))
 have HR2:=Lib.hid (And.intro hc2 hr2)
 clear hc2 hr2 g2 g1
 go_wp2_with fail
 refine hK.out _ _ (fun hnz=>?zs13) (fun _=>?zr13)
 case zs13=>exact hS2
 clear hK K
 try (simp only[Pu,List.getElem_toArray,List.getElem_cons_succ,List.getElem_cons_zero])
 refine zu 13 rfl hS2 (fun W hS=>by go_simp;rfl) ?_
 refine zu 14 rfl hS2 (fun W hS=>by go_simp;rfl) ?_
 refine zu 15 rfl hS2 (fun W hS=>by go_simp;rfl) ?_
 refine zu 16 rfl hS2 (fun W hS=>by go_simp;rfl) ?_
 refine wpAnyZ_ready (rs:=[17]) (by kernel_rfl) (by simp) ?_
 refine AllReadyZ.cons (i:=17) rfl (by kernel_rfl) ?zx18 AllReadyZ.nil
 intro K hK
 simp only[List.getElem_toArray,List.getElem_cons_succ,List.getElem_cons_zero]
 go_simp
 refine hK.out _ _ (fun hnz=>?zs18) (fun _=>?zr18)
 case zs18=>exact absurd rfl hnz
 clear hK K
 try (simp only[Pu,List.getElem_toArray,List.getElem_cons_succ,List.getElem_cons_zero])
 refine wpAnyZ_done (by kernel_rfl) ?_ _
 have GZ:=HG2.out
 have x0:=(Below.cell GZ (p:=⟨B,0,none⟩) lB).trans b0
 have x1:=(Below.cell GZ (p:=⟨B,1,none⟩) lB).trans b1
 have x2:=(Below.cell GZ (p:=⟨B,2,none⟩) lB).trans b2
 have x3:=(Below.cell GZ (p:=⟨B,3,none⟩) lB).trans b3
 have x4:=(Below.cell GZ (p:=⟨B,4,none⟩) lB).trans b4
 have q0:=(Below.cell GZ (p:=ad.add (i*2)) (hbk _)).trans p0
 have q1:=(Below.cell GZ (p:=⟨(ad.add (i*2)).block,(ad.add (i*2)).off+1,none⟩) (hbk _)).trans p1
 have hbk2:∀z,(ad.add z).block<W2.heap.size:=fun z=>Nat.lt_of_lt_of_le (hbk z) GZ.size
 have c0:=(Below.cell GZ (p:=⟨w.heap.size,0,none⟩) zV).trans v0
 have c1:=(Below.cell GZ (p:=⟨w.heap.size,1,none⟩) zV).trans v1
 have d0:=(Below.frozen GZ (p:=⟨w.heap.size,0,none⟩) zV).trans f0
 have d1:=(Below.frozen GZ (p:=⟨w.heap.size,1,none⟩) zV).trans f1
 have zW:=Nat.lt_of_lt_of_le zV GZ.size
 have lB2:=Nat.lt_of_lt_of_le lB GZ.size
 clear b0 b1 b2 b3 b4 p0 p1 hbk v0 v1 f0 f1 zV lB hS0 hS1 hS2 g0 GZ
 by_cases hT1:T<1
 ·
  have hT0:T≤0:=by omega
  have HVV:Hid (hasV m D i t=⟨false,0⟩):=Lib.hid (by rw[HVAL.out,if_pos hT1])
  clear hTf hT1
  go_wp2_with (first|(go_at_call 60;refine (HDE.out A2 c2 HR2.out.1 _ (Rb.own HR2.out.2)).mono ?_;rintro e w3 ⟨rfl,g3⟩;have y4:=(Below.cell g3 (p:=⟨B,4,none⟩) lB2).trans x4;have s0:=(Below.cell g3 (p:=ad.add (i*2)) (hbk2 _)).trans q0;have e0:=(Below.cell g3 (p:=⟨w.heap.size,0,none⟩) zW).trans c0;have e1:=(Below.cell g3 (p:=⟨w.heap.size,1,none⟩) zW).trans c1;have k0:=(Below.frozen g3 (p:=⟨w.heap.size,0,none⟩) zW).trans d0;have k1:=(Below.frozen g3 (p:=⟨w.heap.size,1,none⟩) zW).trans d1;have zW3:=Nat.lt_of_lt_of_le zW g3.size;have lB3:=Nat.lt_of_lt_of_le lB2 g3.size;have hbk3:(ad.add (i*2)).block<w3.heap.size:=Nat.lt_of_lt_of_le (hbk2 _) g3.size;have HG3:=Lib.hid (HG2.out.trans g3);clear g3 x0 x1 x2 x3 x4 q0 q1 c0 c1 d0 d1 zW lB2 hbk2)|(go_at_call 76;refine (HAL.out _).mono ?_;rintro e w4 ⟨rfl,rfl⟩))
  exact bodyPost_ret (v:= .agg #[.bool false, .int .i64 0]) (by simp[results,Tryz.results77,go_sem, *]) rfl ⟨by rw[HVV.out],by repeat (first|exact HGV.out.trans HG3.out|refine Gr.alloc ?_ _|refine Gr.setCell ?_ (Nat.le_refl _) _)⟩
 ·
  have hT0:¬T≤0:=by omega
  by_cases hST:S=T
  ·
   have hst2:(S==T)=true:=by rw[hST];exact beq_self_eq_true T
   have hst3:(S != T)=false:=by rw[hST,bne_self_eq_false]
   have HVV:Hid (hasV m D i t=ofV N):=Lib.hid (by rw[HVAL.out,if_neg hT1,if_pos hST])
   clear hTf hT1 hST
   go_upto_region 4 with (first|(go_at_call 60;refine (HDE.out A2 c2 HR2.out.1 _ (Rb.own HR2.out.2)).mono ?_;rintro e w3 ⟨rfl,g3⟩;have y4:=(Below.cell g3 (p:=⟨B,4,none⟩) lB2).trans x4;have s0:=(Below.cell g3 (p:=ad.add (i*2)) (hbk2 _)).trans q0;have e0:=(Below.cell g3 (p:=⟨w.heap.size,0,none⟩) zW).trans c0;have e1:=(Below.cell g3 (p:=⟨w.heap.size,1,none⟩) zW).trans c1;have k0:=(Below.frozen g3 (p:=⟨w.heap.size,0,none⟩) zW).trans d0;have k1:=(Below.frozen g3 (p:=⟨w.heap.size,1,none⟩) zW).trans d1;have zW3:=Nat.lt_of_lt_of_le zW g3.size;have lB3:=Nat.lt_of_lt_of_le lB2 g3.size;have hbk3:(ad.add (i*2)).block<w3.heap.size:=Nat.lt_of_lt_of_le (hbk2 _) g3.size;have HG3:=Lib.hid (HG2.out.trans g3);clear g3 x0 x1 x2 x3 x4 q0 q1 c0 c1 d0 d1 zW lB2 hbk2)|(go_at_call 76;refine (HAL.out _).mono ?_;rintro e w4 ⟨rfl,rfl⟩))
   obtain ⟨W4,hW4⟩:∃W4,W4=w3.alloc (.cells #[.int .i64 S, .int .i64 N] 54):=⟨_,rfl⟩
   have g4:Gr w3 W4:=by rw[hW4];exact Gr.alloc (Gr.refl _) _
   have n0:W4.cell? ⟨w3.heap.size,0,none⟩=some (.int .i64 S):=by rw[hW4];go_simp
   have n1:W4.cell? ⟨w3.heap.size,1,none⟩=some (.int .i64 N):=by rw[hW4];go_simp
   have i0:=(Below.cell g4 (p:=⟨w.heap.size,0,none⟩) zW3).trans e0
   have i1:=(Below.cell g4 (p:=⟨w.heap.size,1,none⟩) zW3).trans e1
   have j0:=(Below.frozen g4 (p:=⟨w.heap.size,0,none⟩) zW3).trans k0
   have j1:=(Below.frozen g4 (p:=⟨w.heap.size,1,none⟩) zW3).trans k1
   have zW4:=Nat.lt_of_lt_of_le zW3 g4.size
   have HG4:=Lib.hid (HG3.out.trans g4)
   rw[←hW4]
   clear hW4 g4 e0 e1 k0 k1 zW3 lB3 hbk3 y4 s0
   go_wp2_with (go_at_call 98;refine (rof_any N _).mono ?_;rintro e w5 ⟨rfl,g5⟩;have e0':=(Below.cell g5 (p:=⟨w.heap.size,0,none⟩) zW4).trans i0;have e1':=(Below.cell g5 (p:=⟨w.heap.size,1,none⟩) zW4).trans i1;have k0':=(Below.frozen g5 (p:=⟨w.heap.size,0,none⟩) zW4).trans j0;have k1':=(Below.frozen g5 (p:=⟨w.heap.size,1,none⟩) zW4).trans j1;have HG5:=Lib.hid (HG4.out.trans g5);clear g5 i0 i1 j0 j1)
   exact bodyPost_ret (v:= .agg #[.bool (ofV N).ok, .int .i64 (ofV N).n]) (by simp[results,Tryz.results77,go_sem, *]) rfl ⟨by rw[HVV.out],(((HGV.out.trans HG5.out).setCell (p:=⟨w.heap.size,0,none⟩) (Nat.le_refl _) _).setCell (p:=⟨w.heap.size,1,none⟩) (Nat.le_refl _) _)⟩
  ·
   have hst2:(S==T)=false:=beq_eq_false_iff_ne.2 hST
   have hst3:(S != T)=true:=by rw[bne_iff_ne];exact hST
   have HVV:Hid (hasV m D i t=⟨false,0⟩):=Lib.hid (by rw[HVAL.out,if_neg hT1,if_neg hST])
   clear hTf hT1
   go_wp2_with (first|(go_at_call 60;refine (HDE.out A2 c2 HR2.out.1 _ (Rb.own HR2.out.2)).mono ?_;rintro e w3 ⟨rfl,g3⟩;have y4:=(Below.cell g3 (p:=⟨B,4,none⟩) lB2).trans x4;have s0:=(Below.cell g3 (p:=ad.add (i*2)) (hbk2 _)).trans q0;have e0:=(Below.cell g3 (p:=⟨w.heap.size,0,none⟩) zW).trans c0;have e1:=(Below.cell g3 (p:=⟨w.heap.size,1,none⟩) zW).trans c1;have k0:=(Below.frozen g3 (p:=⟨w.heap.size,0,none⟩) zW).trans d0;have k1:=(Below.frozen g3 (p:=⟨w.heap.size,1,none⟩) zW).trans d1;have zW3:=Nat.lt_of_lt_of_le zW g3.size;have lB3:=Nat.lt_of_lt_of_le lB2 g3.size;have hbk3:(ad.add (i*2)).block<w3.heap.size:=Nat.lt_of_lt_of_le (hbk2 _) g3.size;have HG3:=Lib.hid (HG2.out.trans g3);clear g3 x0 x1 x2 x3 x4 q0 q1 c0 c1 d0 d1 zW lB2 hbk2)|(go_at_call 76;refine (HAL.out _).mono ?_;rintro e w4 ⟨rfl,rfl⟩))
   exact bodyPost_ret (v:= .agg #[.bool false, .int .i64 0]) (by simp[results,Tryz.results77,go_sem, *]) rfl ⟨by rw[HVV.out],by repeat (first|exact HGV.out.trans HG3.out|refine Gr.alloc ?_ _|refine Gr.setCell ?_ (Nat.le_refl _) _)⟩
theorem xwr_any {Y:Nat→Prop} {B X:Nat} {R:Option Nat} {room:Int} {n ag xf:Nat} {A:Option Addr} {c:Nat} {m:Arcs} {D:List UInt8} (i:Nat) (hi:i<m.length) (t v:Int) (h0:0≤t) (ht:t≤4611686018427387904) (hv: -9223372036854775808≤v) (hv':v≤9223372036854775807) (hn:n≤900000) (w:World) (h:XfM Y w B X R room n ag xf A c m D):Calls Tryz.prog 87 #[.pointer (some ⟨B,0,none⟩), .int .i64 i, .int .i64 t, .int .i64 v] w fun e w'=>e= .returned (.tuple #[])∧∃(R':Option Nat) (n':Nat),n'≤n+3∧XfM Y w' B X R' room n' ag xf A c m (layS m D i (alignS t (stpS m i)) v)∧Kp (Xch X R) w w'∧∀i,R'=some i→R=some i∨w.heap.size≤i:=by
 obtain ⟨b0,b1,b2,b3,b4⟩:=h.bc
 have lB:=h.lB
 have hF:=MayF.ofH h.may
 have hmi:(i:Int)<(m.length:Int):=by omega
 have hm8:(m.length:Int)≤8:=by have:=hF.l8;omega
 have hst:=hF.s1 i hi
 have hct:=hF.c1 i hi
 obtain ⟨ad,hAd,hb,hc⟩:=h.ri (by rw[ints_len];omega)
 obtain ⟨p0,p1⟩:=hc i (by rw[ints_len];exact hi)
 rw[ints_at m i hi] at p0 p1
 simp only at p0 p1
 rw[←stpS_at hi] at p0
 rw[←cntS_at hi] at p1
 have hbk:∀z,(ad.add z).block<w.heap.size:=fun z=>by rw[adB];exact hb
 have hsz:=hF.sz
 have HSZ:=Lib.hid hsz
 have hat:=xat_any i hi t (by omega) w h
 obtain ⟨T,hT⟩:∃T,T=alignS t (stpS m i):=⟨_,rfl⟩
 have hal:=fun W=>ralign_any t (stpS m i) (by omega) W
 rw[←hT] at hal
 have hpa:=pS_align hF hi h0
 rw[←hT] at hpa
 have hkin:=(atS_in hF hi t).2
 obtain ⟨k,hk⟩:∃k,k=atS m i t:=⟨_,rfl⟩
 have hlay:layS m D i T v=putB D k (encP T v):=by unfold layS;rw[atS_eq,hpa,←atS_eq,←hk]
 rw[←hT,hlay]
 rw[←hk] at hat hkin
 have hki:(k:Int)+12≤1048576:=by omega
 have hws:=fun W=>xwri_any T v hv hv' W
 have HAT:=Lib.hid hat
 have HAL:=Lib.hid hal
 have HWS:=Lib.hid hws
 have HX:=Lib.hid h
 have wk4:IntKind.i64.wrap ((k:Int)+4)=((k+4:Nat):Int):=by rw[IntWalk.i64_in _ (by omega)];omega
 subst hAd
 clear h hc hb hF hst hct hat hal hpa hk hlay hT hws hsz
 go_enter Tryz.func87,Tryz.ntmps87
 go_upto_region 2 with (first|(go_at_call 97;refine HAT.out.mono ?_;rintro e V1 ⟨rfl,g1⟩;have u4:=(Below.cell g1 (p:=⟨B,4,none⟩) lB).trans b4;have u0:=(Below.cell g1 (p:=ad.add (i*2)) (hbk _)).trans p0;have HG1:=Lib.hid g1;clear g1 b0 b1 b2 b3 b4 p0 p1)|(go_at_call 76;refine (HAL.out _).mono ?_;rintro e w4 ⟨rfl,rfl⟩)|(go_at_call 61;refine (HWS.out _).mono ?_;rintro e V2 ⟨Wb,A0,A1,A2,c1,c2,rfl,⟨⟨cw0,cw1,cw2,lWb⟩,hWb⟩,r0,r1,r2,g2⟩;have HG2:=Lib.hid (HG1.out.trans g2);have HWB0:=Lib.hid hWb;clear g2 hWb u4 u0))
 have HX0:=HX
 have HWB:Hid (w.heap.size≤Wb):=Lib.hid (Nat.le_trans HG1.out.size HWB0.out)
 have r0':Rbf w.heap.size V2 A0 [0,0,0,0]:=⟨r0.1,fun ad e=>Nat.le_trans HG1.out.size (r0.2 ad e)⟩
 have r1':Rbf w.heap.size V2 A1 (beB (u64 v) 8):=⟨r1.1,fun ad e=>Nat.le_trans HG1.out.size (r1.2 ad e)⟩
 have r2':Rbf w.heap.size V2 A2 (beB (at4 T) 4):=⟨r2.1,fun ad e=>Nat.le_trans HG1.out.size (r2.2 ad e)⟩
 clear r0 r1 r2
 have r0:=r0'
 have r1:=r1'
 have r2:=r2'
 clear r0' r1' r2'
 have hA1:∀ad,A1=some ad→ad.block<V2.heap.size:=fun ad e=>by
  obtain ⟨ad',e2,hb, -⟩:=r1.1.2 (by rw[beB_len];decide)
  rw[e2] at e
  injection e with e
  subst e
  exact hb
 have hA2:∀ad,A2=some ad→ad.block<V2.heap.size:=fun ad e=>by
  obtain ⟨ad',e2,hb, -⟩:=r2.1.2 (by rw[beB_len];decide)
  rw[e2] at e
  injection e with e
  subst e
  exact hb
 have x0:=HX.out.gr HG2.out
 have hgz:=HG2.out.size
 go_upto_region 2 with (fail)
 refine wp_region_Z 13 (fun W=>W.cell? ⟨B,0,none⟩=some (.pointer (some ⟨X,0,none⟩))∧W.cell? ⟨B,1,none⟩=some (.string nmA)∧W.cell? ⟨Wb,0,none⟩=some (.slice A0 4 4)) (by kernel_rfl) ?_
 have hS0:(fun W=>W.cell? ⟨B,0,none⟩=some (.pointer (some ⟨X,0,none⟩))∧W.cell? ⟨B,1,none⟩=some (.string nmA)∧W.cell? ⟨Wb,0,none⟩=some (.slice A0 4 4)) V2.drew:=⟨x0.bc.1,x0.bc.2.1,cw0⟩
 have g00:Gr V2 V2.drew:=Gr.drew (Gr.refl _)
 obtain ⟨Wa0,hWa⟩:∃Wa,Wa=V2.drew:=⟨_,rfl⟩
 rw[←hWa] at hS0 g00 ⊢
 clear hWa
 refine zu 0 rfl hS0 (fun W hS=>by go_simp;rfl) ?_
 refine zu 1 rfl hS0 (fun W hS=>by go_simp;rfl) ?_
 refine zu 2 rfl hS0 (fun W hS=>by go_simp;rfl) ?_
 refine zu 3 rfl hS0 (fun W hS=>by have e0:=hS.1;go_simp;rfl) ?_
 refine zu 4 rfl hS0 (fun W hS=>by go_simp;rfl) ?_
 refine zu 5 rfl hS0 (fun W hS=>by go_simp;rfl) ?_
 refine zu 6 rfl hS0 (fun W hS=>by go_simp;rfl) ?_
 refine zu 7 rfl hS0 (fun W hS=>by have e1:=hS.2.1;go_simp;rfl) ?_
 refine zu 8 rfl hS0 (fun W hS=>by go_simp;rfl) ?_
 refine zu 9 rfl hS0 (fun W hS=>by go_simp;rfl) ?_
 refine zu 10 rfl hS0 (fun W hS=>by go_simp;rfl) ?_
 refine zu 11 rfl hS0 (fun W hS=>by have e2:=hS.2.2;go_simp;rfl) ?_
 refine wpAnyZ_ready (rs:=[12]) (by kernel_rfl) (by simp) ?_
 refine AllReadyZ.cons (i:=12) rfl (by kernel_rfl) ?zx13 AllReadyZ.nil
 intro K hK
 simp only[List.getElem_toArray,List.getElem_cons_succ,List.getElem_cons_zero]
 go_simp
 obtain ⟨Wc0,hWc⟩:∃Wc,Wc=Wa0.alloc (.cells #[.slice A0 4 4] 49):=⟨_,rfl⟩
 have g10:Gr Wa0 Wc0:=by rw[hWc];exact Gr.alloc (Gr.refl _) _
 have hcc:Wc0.cell? ⟨Wa0.heap.size,0,none⟩=some (.slice A0 4 4):=by rw[hWc];go_simp
 have hcz:Wa0.heap.size<Wc0.heap.size:=by rw[hWc];simp
 have lBa:=Nat.lt_of_lt_of_le x0.lB g00.size
 have lWa:=Nat.lt_of_lt_of_le lWb g00.size
 have hS1:(fun W=>W.cell? ⟨B,0,none⟩=some (.pointer (some ⟨X,0,none⟩))∧W.cell? ⟨B,1,none⟩=some (.string nmA)∧W.cell? ⟨Wb,0,none⟩=some (.slice A0 4 4)) Wc0:=⟨(Below.cell g10 (p:=⟨B,0,none⟩) lBa).trans hS0.1,(Below.cell g10 (p:=⟨B,1,none⟩) lBa).trans hS0.2.1,(Below.cell g10 (p:=⟨Wb,0,none⟩) lWa).trans hS0.2.2⟩
 rw[←hWc]
 clear hWc
 refine hK.out _ _ (fun hnz=>?zs13) (fun _=>?zr13)
 case zs13=>exact hS1
 clear hK K
 try (simp only[Pu,List.getElem_toArray,List.getElem_cons_succ,List.getElem_cons_zero])
 have hwr:=xwrite_any (l:=D) (by rw[x0.len];have:=HSZ.out;omega) k Wa0.heap.size 0 1 1 [[0,0,0,0]] rfl (by decide) (by first|decide|(simp[beB_len];done)) (by rw[x0.len];have:=HSZ.out;first|(simp[beB_len];omega)|(simp;omega)) (by omega) Wc0 ((x0.gr (g00.trans g10)).fs) (fun q hq=>by
  have hq0:q=0:=by simp at hq;omega
  subst hq0
  exact ⟨A0,4,hcc,r0.1.gr (g00.trans g10)⟩) (fun _=>hcz)
 simp only[List.flatten_cons,List.flatten_nil,List.append_nil] at hwr
 have HWR0:=Lib.hid hwr
 clear hwr
 refine wpAnyZ_ready (rs:=[13]) (by kernel_rfl) (by simp) ?_
 refine AllReadyZ.cons (i:=13) rfl (by kernel_rfl) ?zx14 AllReadyZ.nil
 intro K hK
 simp only[List.getElem_toArray,List.getElem_cons_succ,List.getElem_cons_zero]
 go_simp
 refine HWR0.out.mono ?_;rintro e w5 ⟨rfl,R1,hf,hk,hfr⟩
 have x1:XfM Y w5 B X R1 room (n+0+1) ag xf (some ad) c m (putB D k [0,0,0,0]):=(x0.gr (g00.trans g10)).turn hk hf (putB_len (by rw[x0.len];have:=HSZ.out;first|(simp[beB_len];omega)|(simp;omega)))
 have k1:Kp (Xch X R) V2 w5:=(Kp.of_gr _ (g00.trans g10)).trans hk (fun _ _ e=>e)
 have f1:∀i,R1=some i→R=some i∨V2.heap.size≤i:=fun i hi=>(hfr i hi).elim .inl (fun e=> .inr (Nat.le_trans (g00.trans g10).size e))
 clear hf hk hfr
 go_wp2_with fail
 refine hK.out _ _ (fun hnz=>?zs14) (fun _=>?zr14)
 case zs14=>exact absurd rfl hnz
 clear hK K
 try (simp only[Pu,List.getElem_toArray,List.getElem_cons_succ,List.getElem_cons_zero])
 refine wpAnyZ_done (by kernel_rfl) ?_ _
 have nT0:∀q,w.heap.size≤q→q<V2.heap.size→¬Xch X R q:=fun q hq hq2 e=>by
  rcases e with e|e
  ·
   subst e;have:=HX0.out.fs.lX;omega
  ·
   have:=HX0.out.fs.lR q e;omega
 have cw1_1:=(k1.cell (a:=⟨Wb,1,none⟩) lWb (nT0 Wb HWB.out lWb)).trans cw1
 have r1_1:Rb w5 A1 (beB (u64 v) 8):=k1.rd r1.1 (fun _ ad e=>nT0 _ (r1.2 ad e) (hA1 ad e))
 have cw2_1:=(k1.cell (a:=⟨Wb,2,none⟩) lWb (nT0 Wb HWB.out lWb)).trans cw2
 have r2_1:Rb w5 A2 (beB (at4 T) 4):=k1.rd r2.1 (fun _ ad e=>nT0 _ (r2.2 ad e) (hA2 ad e))
 have lWb1:=Nat.lt_of_lt_of_le lWb k1.size
 go_upto_region 3 with (fail)
 refine wp_region_Z 14 (fun W=>W.cell? ⟨B,0,none⟩=some (.pointer (some ⟨X,0,none⟩))∧W.cell? ⟨B,1,none⟩=some (.string nmA)∧W.cell? ⟨Wb,1,none⟩=some (.slice A1 8 c1)) (by kernel_rfl) ?_
 have hS0:(fun W=>W.cell? ⟨B,0,none⟩=some (.pointer (some ⟨X,0,none⟩))∧W.cell? ⟨B,1,none⟩=some (.string nmA)∧W.cell? ⟨Wb,1,none⟩=some (.slice A1 8 c1)) w5.drew:=⟨x1.bc.1,x1.bc.2.1,cw1_1⟩
 have g01:Gr w5 w5.drew:=Gr.drew (Gr.refl _)
 obtain ⟨Wa1,hWa⟩:∃Wa,Wa=w5.drew:=⟨_,rfl⟩
 rw[←hWa] at hS0 g01 ⊢
 clear hWa
 refine zu 0 rfl hS0 (fun W hS=>by go_simp;rfl) ?_
 refine zu 1 rfl hS0 (fun W hS=>by go_simp;rfl) ?_
 refine zu 2 rfl hS0 (fun W hS=>by go_simp;rfl) ?_
 refine zu 3 rfl hS0 (fun W hS=>by have e0:=hS.1;go_simp;rfl) ?_
 refine zu 4 rfl hS0 (fun W hS=>by go_simp;rfl) ?_
 refine zu 5 rfl hS0 (fun W hS=>by go_simp;rfl) ?_
 refine zu 6 rfl hS0 (fun W hS=>by go_simp;rfl) ?_
 refine zu 7 rfl hS0 (fun W hS=>by have e1:=hS.2.1;go_simp;rfl) ?_
 refine zu 8 rfl hS0 (fun W hS=>by go_simp;rfl) ?_
 refine zu 9 rfl hS0 (fun W hS=>by go_simp;rfl) ?_
 refine zu 10 rfl hS0 (fun W hS=>by go_simp;rfl) ?_
 refine zu 11 rfl hS0 (fun W hS=>by go_simp;rfl) ?_
 refine zu 12 rfl hS0 (fun W hS=>by have e2:=hS.2.2;go_simp;rfl) ?_
 refine wpAnyZ_ready (rs:=[13]) (by kernel_rfl) (by simp) ?_
 refine AllReadyZ.cons (i:=13) rfl (by kernel_rfl) ?zx28 AllReadyZ.nil
 intro K hK
 simp only[List.getElem_toArray,List.getElem_cons_succ,List.getElem_cons_zero]
 go_simp
 obtain ⟨Wc1,hWc⟩:∃Wc,Wc=Wa1.alloc (.cells #[.slice A1 8 c1] 49):=⟨_,rfl⟩
 have g11:Gr Wa1 Wc1:=by rw[hWc];exact Gr.alloc (Gr.refl _) _
 have hcc:Wc1.cell? ⟨Wa1.heap.size,0,none⟩=some (.slice A1 8 c1):=by rw[hWc];go_simp
 have hcz:Wa1.heap.size<Wc1.heap.size:=by rw[hWc];simp
 have lBa:=Nat.lt_of_lt_of_le x1.lB g01.size
 have lWa:=Nat.lt_of_lt_of_le lWb1 g01.size
 have hS1:(fun W=>W.cell? ⟨B,0,none⟩=some (.pointer (some ⟨X,0,none⟩))∧W.cell? ⟨B,1,none⟩=some (.string nmA)∧W.cell? ⟨Wb,1,none⟩=some (.slice A1 8 c1)) Wc1:=⟨(Below.cell g11 (p:=⟨B,0,none⟩) lBa).trans hS0.1,(Below.cell g11 (p:=⟨B,1,none⟩) lBa).trans hS0.2.1,(Below.cell g11 (p:=⟨Wb,1,none⟩) lWa).trans hS0.2.2⟩
 rw[←hWc]
 clear hWc
 refine hK.out _ _ (fun hnz=>?zs28) (fun _=>?zr28)
 case zs28=>exact hS1
 clear hK K
 try (simp only[Pu,List.getElem_toArray,List.getElem_cons_succ,List.getElem_cons_zero])
 have hwr:=xwrite_any (l:=(putB D k [0,0,0,0])) (by rw[x1.len];have:=HSZ.out;omega) (k+4) Wa1.heap.size 0 1 1 [(beB (u64 v) 8)] rfl (by decide) (by first|decide|(simp[beB_len];done)) (by rw[x1.len];have:=HSZ.out;first|(simp[beB_len];omega)|(simp;omega)) (by omega) Wc1 ((x1.gr (g01.trans g11)).fs) (fun q hq=>by
  have hq0:q=0:=by simp at hq;omega
  subst hq0
  exact ⟨A1,c1,hcc,r1_1.gr (g01.trans g11)⟩) (fun _=>hcz)
 simp only[List.flatten_cons,List.flatten_nil,List.append_nil] at hwr
 have HWR1:=Lib.hid hwr
 clear hwr
 refine wpAnyZ_ready (rs:=[14]) (by kernel_rfl) (by simp) ?_
 refine AllReadyZ.cons (i:=14) rfl (by kernel_rfl) ?zx29 AllReadyZ.nil
 intro K hK
 simp only[List.getElem_toArray,List.getElem_cons_succ,List.getElem_cons_zero]
 go_simp
 refine HWR1.out.mono ?_;rintro e w6 ⟨rfl,R2,hf,hk,hfr⟩
 have x2:XfM Y w6 B X R2 room (n+1+1) ag xf (some ad) c m (putB (putB D k [0,0,0,0]) (k+4) (beB (u64 v) 8)):=(x1.gr (g01.trans g11)).turn hk hf (putB_len (by rw[x1.len];have:=HSZ.out;first|(simp[beB_len];omega)|(simp;omega)))
 have k2:Kp (Xch X R1) w5 w6:=(Kp.of_gr _ (g01.trans g11)).trans hk (fun _ _ e=>e)
 have f2:∀i,R2=some i→R1=some i∨w5.heap.size≤i:=fun i hi=>(hfr i hi).elim .inl (fun e=> .inr (Nat.le_trans (g01.trans g11).size e))
 clear hf hk hfr
 go_wp2_with fail
 refine hK.out _ _ (fun hnz=>?zs29) (fun _=>?zr29)
 case zs29=>exact absurd rfl hnz
 clear hK K
 try (simp only[Pu,List.getElem_toArray,List.getElem_cons_succ,List.getElem_cons_zero])
 refine wpAnyZ_done (by kernel_rfl) ?_ _
 have nT1:∀q,w.heap.size≤q→q<V2.heap.size→¬Xch X R1 q:=fun q hq hq2 e=>by
  rcases e with e|e
  ·
   subst e;have:=HX0.out.fs.lX;omega
  ·
   rcases f1 q e with e|e
   ·
    have:=HX0.out.fs.lR q e;omega
   ·
    omega
 have cw2_2:=(k2.cell (a:=⟨Wb,2,none⟩) lWb1 (nT1 Wb HWB.out lWb)).trans cw2_1
 have r2_2:Rb w6 A2 (beB (at4 T) 4):=k2.rd r2_1 (fun _ ad e=>nT1 _ (r2.2 ad e) (hA2 ad e))
 have lWb2:=Nat.lt_of_lt_of_le lWb1 k2.size
 go_upto_region 4 with (fail)
 refine wp_region_Z 13 (fun W=>W.cell? ⟨B,0,none⟩=some (.pointer (some ⟨X,0,none⟩))∧W.cell? ⟨B,1,none⟩=some (.string nmA)∧W.cell? ⟨Wb,2,none⟩=some (.slice A2 4 c2)) (by kernel_rfl) ?_
 have hS0:(fun W=>W.cell? ⟨B,0,none⟩=some (.pointer (some ⟨X,0,none⟩))∧W.cell? ⟨B,1,none⟩=some (.string nmA)∧W.cell? ⟨Wb,2,none⟩=some (.slice A2 4 c2)) w6.drew:=⟨x2.bc.1,x2.bc.2.1,cw2_2⟩
 have g02:Gr w6 w6.drew:=Gr.drew (Gr.refl _)
 obtain ⟨Wa2,hWa⟩:∃Wa,Wa=w6.drew:=⟨_,rfl⟩
 rw[←hWa] at hS0 g02 ⊢
 clear hWa
 refine zu 0 rfl hS0 (fun W hS=>by go_simp;rfl) ?_
 refine zu 1 rfl hS0 (fun W hS=>by go_simp;rfl) ?_
 refine zu 2 rfl hS0 (fun W hS=>by go_simp;rfl) ?_
 refine zu 3 rfl hS0 (fun W hS=>by have e0:=hS.1;go_simp;rfl) ?_
 refine zu 4 rfl hS0 (fun W hS=>by go_simp;rfl) ?_
 refine zu 5 rfl hS0 (fun W hS=>by go_simp;rfl) ?_
 refine zu 6 rfl hS0 (fun W hS=>by go_simp;rfl) ?_
 refine zu 7 rfl hS0 (fun W hS=>by have e1:=hS.2.1;go_simp;rfl) ?_
 refine zu 8 rfl hS0 (fun W hS=>by go_simp;rfl) ?_
 refine zu 9 rfl hS0 (fun W hS=>by go_simp;rfl) ?_
 refine zu 10 rfl hS0 (fun W hS=>by go_simp;rfl) ?_
 refine zu 11 rfl hS0 (fun W hS=>by have e2:=hS.2.2;go_simp;rfl) ?_
 refine wpAnyZ_ready (rs:=[12]) (by kernel_rfl) (by simp) ?_
 refine AllReadyZ.cons (i:=12) rfl (by kernel_rfl) ?zx42 AllReadyZ.nil
 intro K hK
 simp only[List.getElem_toArray,List.getElem_cons_succ,List.getElem_cons_zero]
 go_simp
 obtain ⟨Wc2,hWc⟩:∃Wc,Wc=Wa2.alloc (.cells #[.slice A2 4 c2] 49):=⟨_,rfl⟩
 have g12:Gr Wa2 Wc2:=by rw[hWc];exact Gr.alloc (Gr.refl _) _
 have hcc:Wc2.cell? ⟨Wa2.heap.size,0,none⟩=some (.slice A2 4 c2):=by rw[hWc];go_simp
 have hcz:Wa2.heap.size<Wc2.heap.size:=by rw[hWc];simp
 have lBa:=Nat.lt_of_lt_of_le x2.lB g02.size
 have lWa:=Nat.lt_of_lt_of_le lWb2 g02.size
 have hS1:(fun W=>W.cell? ⟨B,0,none⟩=some (.pointer (some ⟨X,0,none⟩))∧W.cell? ⟨B,1,none⟩=some (.string nmA)∧W.cell? ⟨Wb,2,none⟩=some (.slice A2 4 c2)) Wc2:=⟨(Below.cell g12 (p:=⟨B,0,none⟩) lBa).trans hS0.1,(Below.cell g12 (p:=⟨B,1,none⟩) lBa).trans hS0.2.1,(Below.cell g12 (p:=⟨Wb,2,none⟩) lWa).trans hS0.2.2⟩
 rw[←hWc]
 clear hWc
 refine hK.out _ _ (fun hnz=>?zs42) (fun _=>?zr42)
 case zs42=>exact hS1
 clear hK K
 try (simp only[Pu,List.getElem_toArray,List.getElem_cons_succ,List.getElem_cons_zero])
 have hwr:=xwrite_any (l:=(putB (putB D k [0,0,0,0]) (k+4) (beB (u64 v) 8))) (by rw[x2.len];have:=HSZ.out;omega) k Wa2.heap.size 0 1 1 [(beB (at4 T) 4)] rfl (by decide) (by first|decide|(simp[beB_len];done)) (by rw[x2.len];have:=HSZ.out;first|(simp[beB_len];omega)|(simp;omega)) (by omega) Wc2 ((x2.gr (g02.trans g12)).fs) (fun q hq=>by
  have hq0:q=0:=by simp at hq;omega
  subst hq0
  exact ⟨A2,c2,hcc,r2_2.gr (g02.trans g12)⟩) (fun _=>hcz)
 simp only[List.flatten_cons,List.flatten_nil,List.append_nil] at hwr
 have HWR2:=Lib.hid hwr
 clear hwr
 refine wpAnyZ_ready (rs:=[13]) (by kernel_rfl) (by simp) ?_
 refine AllReadyZ.cons (i:=13) rfl (by kernel_rfl) ?zx43 AllReadyZ.nil
 intro K hK
 simp only[List.getElem_toArray,List.getElem_cons_succ,List.getElem_cons_zero]
 go_simp
 refine HWR2.out.mono ?_;rintro e w7 ⟨rfl,R3,hf,hk,hfr⟩
 have x3:XfM Y w7 B X R3 room (n+2+1) ag xf (some ad) c m (putB (putB (putB D k [0,0,0,0]) (k+4) (beB (u64 v) 8)) k (beB (at4 T) 4)):=(x2.gr (g02.trans g12)).turn hk hf (putB_len (by rw[x2.len];have:=HSZ.out;first|(simp[beB_len];omega)|(simp;omega)))
 have k3:Kp (Xch X R2) w6 w7:=(Kp.of_gr _ (g02.trans g12)).trans hk (fun _ _ e=>e)
 have f3:∀i,R3=some i→R2=some i∨w6.heap.size≤i:=fun i hi=>(hfr i hi).elim .inl (fun e=> .inr (Nat.le_trans (g02.trans g12).size e))
 clear hf hk hfr
 go_wp2_with fail
 refine hK.out _ _ (fun hnz=>?zs43) (fun _=>?zr43)
 case zs43=>exact absurd rfl hnz
 clear hK K
 try (simp only[Pu,List.getElem_toArray,List.getElem_cons_succ,List.getElem_cons_zero])
 refine wpAnyZ_done (by kernel_rfl) ?_ _
 have x3':=x3
 rw[show (4:Nat)=([0,0,0,0]:List UInt8).length from rfl,putB_two (by simp[beB_len]) (by rw[beB_len,HX.out.len];have:=HSZ.out;simp;omega)] at x3'
 have HF:=Lib.hid (And.intro x3' (And.intro k1 (And.intro k2 (And.intro k3 (And.intro f1 (And.intro f2 f3))))))
 clear x0 x1 x2 x3 x3' k1 k2 k3 f1 f2 f3
 go_wp2
 go_end0
 obtain ⟨x3,k1,k2,k3,f1,f2,f3⟩:=HF.out
 have s1:∀q,q<w.heap.size→Xch X R1 q→Xch X R q:=fun q hq e=>by
  rcases e with e|e
  ·
   exact .inl e
  ·
   rcases f1 q e with e|e
   ·
    exact .inr e
   ·
    have:=HG2.out.size;omega
 have s2:∀q,q<w.heap.size→Xch X R2 q→Xch X R q:=fun q hq e=>by
  rcases e with e|e
  ·
   exact .inl e
  ·
   rcases f2 q e with e|e
   ·
    exact s1 q hq (.inr e)
   ·
    have:=HG2.out.size;have:=k1.size;omega
 refine ⟨rfl,R3,n+2+1,by omega,x3,(((Kp.of_gr (Xch X R) HG2.out).trans k1 (fun _ _ e=>e)).trans k2 s1).trans k3 s2,fun q e=>?_⟩
 have z1:=HG2.out.size
 have z2:=k1.size
 have z3:=k2.size
 rcases f3 q e with e|e
 ·
  rcases f2 q e with e|e
  ·
   rcases f1 q e with e|e
   ·
    exact .inl e
   ·
    exact .inr (by omega)
  ·
   exact .inr (by omega)
 ·
  exact .inr (by omega)
theorem mdV_isB (a b c:Int):isB (mdV a b c)=true:=by
 unfold mdV;cases mdOk a b c
 ·
  rfl
 ·
  exact ofV_isB _
theorem sumV_isB (a b:Vl):isB (sumV a b)=true:=by
 unfold sumV;cases knB a&&knB b
 ·
  rfl
 ·
  exact ofV_isB _
theorem divV_isB (a b:Vl):isB (divV a b)=true:=by
 unfold divV;cases knB a&&knB b
 ·
  rfl
 ·
  exact mdV_isB _ _ _
theorem fold_isB (l:List Vl):∀x,isB x=true→isB (l.foldl sumV x)=true:=by
 induction l with
 | nil=>intro x h;exact h
 | cons v l ih=>intro x _;exact ih _ (sumV_isB _ _)
theorem addV_isB (l:List Vl):isB (addV l)=true:=fold_isB l _ (ofV_isB _)
theorem maxV_isB (l:List Vl):∀x,isB x=true→(∀v∈l,isB v=true)→isB (maxV x l)=true:=by
 induction l with
 | nil=>intro x h _;exact h
 | cons v l ih=>
  intro x h hl
  refine ih _ ?_ (fun u hu=>hl u (List.mem_cons_of_mem _ hu))
  show isB (bif lessB x v then v else x)=true
  cases lessB x v
  ·
   exact h
  ·
   exact hl v (List.mem_cons_self ..)
theorem minV_isB (l:List Vl):∀x,isB x=true→(∀v∈l,isB v=true)→isB (minV x l)=true:=by
 induction l with
 | nil=>intro x h _;exact h
 | cons v l ih=>
  intro x h hl
  refine ih _ ?_ (fun u hu=>hl u (List.mem_cons_of_mem _ hu))
  show isB (bif lessB v x then v else x)=true
  cases lessB v x
  ·
   exact h
  ·
   exact hl v (List.mem_cons_self ..)
theorem knB_isB {v:Vl} (h:knB v=true):isB v=true:=by
 unfold knB at h;rw[Bool.and_eq_true] at h;exact h.2
theorem aggV_isB (kind:Int) (l:List Vl):isB (aggV kind l)=true:=by
 have hK:∀v∈kn l,isB v=true:=fun v hv=>knB_isB (List.mem_filter.1 hv).2
 unfold aggV ofK
 generalize kn l=K at hK
 repeat' split
 ·
  exact addV_isB _
 ·
  exact divV_isB _ _
 ·
  exact hK _ (List.getElem_mem _)
 ·
  exact maxV_isB _ _ (hK _ (List.getElem_mem _)) hK
 ·
  exact minV_isB _ _ (hK _ (List.getElem_mem _)) hK
 ·
  rfl
 ·
  rfl
theorem rq_one (m:Nat):rq (m*1000000) 1000000=m:=by
 unfold rq
 rw[Nat.mul_mod_left,Nat.mul_div_cancel _ (Nat.succ_pos _),if_neg (by omega),Nat.add_zero]
theorem md_one {n:Int} (h0: -4611686018427387904≤n) (h1:n≤4611686018427387904):mdV n 1000000 1000000=⟨true,n⟩:=by
 have hr:rq (n.natAbs*(1000000:Int).natAbs) (1000000:Int).natAbs=n.natAbs:=rq_one n.natAbs
 have hok:mdOk n 1000000 1000000=true:=mdOk_yes (by omega) (by rw[hr];omega)
 have hneg:mdNeg n 1000000 1000000=decide (n<0):=by
  unfold mdNeg
  generalize hd:decide ((1000000:Int)<0)=d
  cases decide (n<0)<;>cases d<;>rfl
 have hn:mdN n 1000000 1000000=n:=by
  unfold mdN
  rw[hok,hr,hneg]
  by_cases hneg:n<0
  ·
   rw[decide_eq_true hneg];show -(n.natAbs:Int)=n;omega
  ·
   rw[decide_eq_false hneg];show (n.natAbs:Int)=n;omega
 unfold mdV
 rw[hok,hn]
 exact ofV_in h0 h1
theorem div_one {v:Vl} (hk:knB v=true):divV v ⟨true,1000000⟩=v:=by
 obtain ⟨hok,h0,h1⟩:=(knB_iff v).1 hk
 have hq:knB ⟨true,1000000⟩=true:=(knB_iff _).2 ⟨rfl,by show (-4611686018427387904:Int)≤1000000;omega,by show (1000000:Int)≤4611686018427387904;omega⟩
 have e:divV v ⟨true,1000000⟩=bif knB v&&knB ⟨true,1000000⟩ then mdV v.n 1000000 1000000 else ⟨false,0⟩:=rfl
 rw[e,hk,hq,md_one h0 h1]
 show (⟨true,v.n⟩:Vl)=v
 rw[←hok]
end Go.Proofs.YtoncapkmaeghfaaGreat
