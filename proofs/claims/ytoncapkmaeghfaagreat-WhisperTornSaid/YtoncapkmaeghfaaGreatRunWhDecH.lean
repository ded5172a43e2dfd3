import Derived.Test.YtoncapkmaeghfaaGreatRunWhHdr
import Derived.Test.YtoncapkmaeghfaaGreatRunAgOfR
import Derived.Test.YtoncapkmaeghfaaGreatRunVfDoes
import Derived.Test.YtoncapkmaeghfaaGreatRunFxBase
set_option linter.all false
set_option maxRecDepth 1000000
set_option maxHeartbeats 12800000
namespace Go.Proofs.YtoncapkmaeghfaaGreat
open Go.RowKit
def lenV:Option Value→Nat
 | some (.slice _ n _)=>n
 | _=>0
def LyB2 (B:Nat) (v:Value) (W:World):Prop:=W.cell? ⟨B,2,none⟩=some v∧W.frozen? ⟨B,2,none⟩=false
theorem own_kpU {w w':World} {base B:Nat} {e:TypeId} {size n:Nat} {v:Value} {xs:List Value} (h:w.ownsRow base e size v n xs) (k:Kp (fun q=>q=B) w w') (hb:B<base):w'.ownsRow base e size v n xs:=
 k.own h (fun q hq hS=>by have:=(h.lt q hq).1;omega)
def RetDe (L:List UInt8) (w:World) (e:Ending) (w':World):Prop:=
 Gr w w'∧match decH L with
  | none=>e= .returned (.tuple #[.agg #[.int .i64 0, .int .i64 0, .slice none 0 0], .int .i64 2])
  | some (ag,xf,m)=>∃A c,e= .returned (.tuple #[.agg #[.int .i64 (ag:Nat), .int .i64 (xf:Nat), .slice A m.length c], .int .i64 0])∧m.length≤c∧Ri w' A (ints m)∧(0<m.length→∃b,A=some ⟨b,0,none⟩)∧∀ad,A=some ad→w.heap.size≤ad.block
theorem RetDe.no {L:List UInt8} {w w5:World} (g:Gr w w5) (h:decH L=none) (u0 u1 u2:Value):RetDe L w (.returned (.tuple #[.agg #[.int .i64 0, .int .i64 0, .slice none 0 0], .int .i64 2])) (((w5.setCell ⟨w.heap.size,0,none⟩ u0).setCell ⟨w.heap.size,1,none⟩ u1).setCell ⟨w.heap.size,2,none⟩ u2):=
 ⟨((g.setCell (Nat.le_refl _) _).setCell (Nat.le_refl _) _).setCell (Nat.le_refl _) _,by rw[h]⟩
theorem RetDe.yes {L:List UInt8} {w w5:World} {A:Option Addr} {k c:Nat} {ag xf:Nat} {e:TypeId} (g:Gr w w5) (h:decH L=some (ag,xf,arcsAt L k)) (ho:w5.ownsRow (w.heap.size+3) e 2 (.slice A k c) k (acells (arcsAt L k))) (hc:k≤c) {u0 u1 u2:Value} :
  RetDe L w (.returned (.tuple #[.agg #[.int .i64 ag, .int .i64 xf, .slice A k c], .int .i64 0])) (((w5.setCell ⟨w.heap.size,0,none⟩ u0).setCell ⟨w.heap.size,1,none⟩ u1).setCell ⟨w.heap.size,2,none⟩ u2):=by
 have hl:=ho.lt
 refine ⟨((g.setCell (Nat.le_refl _) _).setCell (Nat.le_refl _) _).setCell (Nat.le_refl _) _,?_⟩
 rw[h]
 refine ⟨A,c,by rw[arcsAt_len],by rw[arcsAt_len];exact hc,Ri.own (own_setU (own_setU (own_setU ho (p:=⟨w.heap.size,0,none⟩) (by show w.heap.size<w.heap.size+3;omega) _) (p:=⟨w.heap.size,1,none⟩) (by show w.heap.size<w.heap.size+3;omega) _) (p:=⟨w.heap.size,2,none⟩) (by show w.heap.size<w.heap.size+3;omega) _),fun h0=>?_,fun ad e=>?_⟩
 ·
  rw[arcsAt_len] at h0
  obtain ⟨g,e, -⟩:=own_blockU ho h0
  exact ⟨g,e⟩
 have:=(hl ad.block (by rw[e];rfl)).1
 omega
theorem hdecode_any (w:World) (A:Option Addr) (b c:Nat) (L:List UInt8) (hA:0<L.length→A=some ⟨b,0,none⟩) (hb:b<w.heap.size) (hL:(L.length:Int)≤1073741824) (hc:L.length≤c) (hcb:(c:Int)≤9223372036854775807) (hr:Rb w A L):Calls Tryz.prog 81 #[.slice A L.length c] w (RetDe L w):=by
 obtain ⟨i0,hi0,hz0,hz1,hz2⟩:=info_parts info_arch
 obtain ⟨V,hV⟩:∃V,V=((w.alloc (.cells #[.int .i64 0, .int .i64 0, .slice none 0 0] 24)).alloc (.cells #[.slice A L.length c, .bool false] 160)).alloc (.cells #[.int .i64 0, .int .i64 0, .slice none 0 0] 24):=⟨_,rfl⟩
 have gV:Gr w V:=by rw[hV];exact Gr.alloc (Gr.alloc (Gr.alloc (Gr.refl w) _) _) _
 have hz:V.heap.size=w.heap.size+3:=by rw[hV];simp
 have hR0:RdAt V (w.heap.size+1) b c L 0:=⟨by omega,⟨A,by rw[show offJ L 0=0 by unfold offJ;omega,Nat.sub_zero,Nat.sub_zero,hV];go_simp,fun h=>by rw[show offJ L 0=0 by unfold offJ;omega] at h ⊢;exact hA h⟩,by rw[show decide (L.length<4*0)=false from decide_eq_false (by omega),hV];go_simp,by rw[hV];go_simp,by rw[hV];go_simp⟩
 have D0:Hid (DeS w V b c L 0 0 0 (.slice none 0 0)):=Lib.hid ⟨gV,hR0,by omega,by rw[hV];go_simp,by rw[hV];go_simp,by rw[hV];go_simp,by rw[hV];go_simp,by rw[hV];go_simp,by rw[hV];go_simp,fun o ho=>by
  match o,ho with
  | 0,_=>constructor<;>(rw[hV];go_simp)
  | 1,_=>constructor<;>(rw[hV];go_simp)
  | 2,_=>constructor<;>(rw[hV];go_simp)⟩
 have HL:=Lib.hid (And.intro hL (And.intro hc (And.intro hcb (And.intro (show 4≤L.length→Rb w (some ⟨b,0,none⟩) L from fun h=>by rw[←hA (by omega)];exact hr) hb))))
 have HRB:=Lib.hid hr
 have HV:=Lib.hid hV
 clear hV gV hR0 hA hr hL hcb hb
 go_enter Tryz.func81,Tryz.ntmps81
 go_upto_region 3 with (fail)
 rw[←HV.out]
 clear HV hz
 go_upto_region 4 with (go_at_call 99;refine (D0.out.num (by omega) HL.out.1 HL.out.2.1 HL.out.2.2.1 HL.out.2.2.2.1 HL.out.2.2.2.2).mono ?_;rintro e D1w ⟨rfl,D1d,D1k⟩;have D1:=Lib.hid D1d;have a0:=D1d.h0;have a1:=D1d.h1;have f0:=(D1d.hf 0 (by decide)).1;have f1:=(D1d.hf 1 (by decide)).1;clear D1d D1k)
 have D1':=Lib.hid (D1.out.put (i:=0) (y0:=(numAt L 0:Nat)) (y1:=0) (y2:= .slice none 0 0) (.int .i64 (numAt L 0:Nat)) (.inl ⟨rfl,rfl,rfl,rfl⟩))
 clear a0 a1 f0 f1
 obtain ⟨V1,hV1⟩:∃V1,V1=D1w.setCell ⟨w.heap.size+2,0,none⟩ (.int .i64 (numAt L 0:Nat)):=⟨_,rfl⟩
 rw[←hV1] at D1' ⊢
 clear hV1
 go_upto_region 5 with (go_at_call 99;refine (D1'.out.num (by omega) HL.out.1 HL.out.2.1 HL.out.2.2.1 HL.out.2.2.2.1 HL.out.2.2.2.2).mono ?_;rintro e D2w ⟨rfl,D2d,D2k⟩;have D2:=Lib.hid D2d;have a0:=D2d.h0;have a1:=D2d.h1;have f0:=(D2d.hf 0 (by decide)).1;have f1:=(D2d.hf 1 (by decide)).1;clear D2d D2k)
 clear a0 a1 f0 f1
 go_upto_region 6 with (go_at_call 99;refine (D2.out.num (by omega) HL.out.1 HL.out.2.1 HL.out.2.2.1 HL.out.2.2.2.1 HL.out.2.2.2.2).mono ?_;rintro e D3w ⟨rfl,D3d,D3k⟩;have D3:=Lib.hid D3d;have a0:=D3d.h0;have a1:=D3d.h1;have f0:=(D3d.hf 0 (by decide)).1;have f1:=(D3d.hf 1 (by decide)).1;clear D3d D3k)
 have D3':=Lib.hid (D3.out.put (i:=1) (y0:=(numAt L 0:Nat)) (y1:=(numAt L 2:Nat)) (y2:= .slice none 0 0) (.int .i64 (numAt L 2:Nat)) (.inr (.inl ⟨rfl,rfl,rfl,rfl⟩)))
 clear a0 a1 f0 f1
 obtain ⟨V3,hV3⟩:∃V3,V3=D3w.setCell ⟨w.heap.size+2,1,none⟩ (.int .i64 (numAt L 2:Nat)):=⟨_,rfl⟩
 rw[←hV3] at D3' ⊢
 clear hV3
 obtain ⟨N,hN⟩:∃N,N=numAt L 3:=⟨_,rfl⟩
 have hN32:N<4294967296:=by rw[hN];exact numAt_lt L 3
 have HN:=Lib.hid hN
 have hq0:=numAt_lt L 0
 have hq2:=numAt_lt L 2
 obtain ⟨ag,hag⟩:∃ag,ag=numAt L 0:=⟨_,rfl⟩
 obtain ⟨xf,hxf⟩:∃xf,xf=numAt L 2:=⟨_,rfl⟩
 rw[←hag,←hxf] at D3'
 have HAX:=Lib.hid (And.intro hag hxf)
 clear hN hag hxf hq0 hq2
 go_wp2_with (go_at_call 99;refine (D3'.out.num (by omega) HL.out.1 HL.out.2.1 HL.out.2.2.1 HL.out.2.2.2.1 HL.out.2.2.2.2).mono ?_;rintro e D4w ⟨rfl,D4d,D4k⟩;have D4:=Lib.hid D4d;have a0:=D4d.h0;have a1:=D4d.h1;have f0:=(D4d.hf 0 (by decide)).1;have f1:=(D4d.hf 1 (by decide)).1;clear D4d D4k;rw[←HN.out])
 clear a0 a1 f0 f1
 go_loopw [7] (fun _ wr=>∃(k:Nat) (v:Value),k≤N∧DeS w wr b c L (4+3*k) ag xf v∧wr.ownsRow (w.heap.size+3) 69 2 v k (acells (arcsAt L k))∧(8<N→k=0)) (fun _ wr=>N-lenV (wr.cell? ⟨w.heap.size+2,2,none⟩))
 case atStart=>exact ⟨0, .slice none 0 0,Nat.zero_le _,D4.out,World.ownsRow_nil _ _ _ _,fun _=>rfl⟩
 case round=>
  obtain ⟨k,v,hk,D,hown,h8⟩:=hrel
  obtain ⟨A',c',hv⟩:=own_form hown
  subst hv
  have a0:=D.h0
  have a1:=D.h1
  have a2:=D.h2
  have rb:=D.rd.c1
  have D5:=Lib.hid D
  have HO:=Lib.hid hown
  have hvl:=Lib.hid hown.lt
  by_cases n1:N<1
  ·
   have m1:¬(0:Int)<(N:Int):=by omega
   have hk0:k=0:=by omega
   subst hk0
   have HDN:Hid (decH L=none):=Lib.hid (decH_n (.inl (by rw[←HN.out];exact n1)))
   have hM:mayH ag xf (ints (arcsAt L 0))=false:=mayH_nil _ _
   clear n1 h8 hk D hown
   by_cases bd:L.length<4*(4+3*0)
   ·
    rw[decide_eq_true bd] at rb
    clear bd
    have hown:=HO.out
    have hlk:(ints (arcsAt L 0)).length=0:=by rw[ints_len,arcsAt_len]
    have HE:=hencode_no ag xf A' c' (ints (arcsAt L 0)) (by rw[ints_len,arcsAt_len];omega) hM _ (Ri.own hown)
    rw[hlk] at HE
    have HE2:=Lib.hid HE
    clear HE hown hlk hM
    go_wp2_with (go_at_call 31;refine HE2.out.mono ?_;rintro e w5 ⟨rfl,g5⟩;have D6:=Lib.hid (D5.out.gro g5);have O6:=Lib.hid (own_grU HO.out g5);have e0:=D6.out.h0;have e1:=D6.out.h1;have e2:=D6.out.h2;have eb:=(Below.cell g5 (p:=⟨w.heap.size+1,1,none⟩) D5.out.rd.lt).trans rb;have r0:=D6.out.r0;have r1:=D6.out.r1;have r2:=D6.out.r2;have f0:=(D6.out.hf 0 (by decide)).2;have f1:=(D6.out.hf 1 (by decide)).2;have f2:=(D6.out.hf 2 (by decide)).2;clear a0 a1 a2 rb;clear g5)
    refine bodyPost_ret (v:= .tuple #[.agg #[.int .i64 0, .int .i64 0, .slice none 0 0], .int .i64 2]) (by simp[results,Tryz.results81,go_sem, *]) rfl ?_
    exact RetDe.no D6.out.gr HDN.out _ _ _
   ·
    rw[decide_eq_false bd] at rb
    clear bd
    have hown:=HO.out
    have hlk:(ints (arcsAt L 0)).length=0:=by rw[ints_len,arcsAt_len]
    have HE:=hencode_no ag xf A' c' (ints (arcsAt L 0)) (by rw[ints_len,arcsAt_len];omega) hM _ (Ri.own hown)
    rw[hlk] at HE
    have HE2:=Lib.hid HE
    clear HE hown hlk hM
    go_wp2_with (go_at_call 31;refine HE2.out.mono ?_;rintro e w5 ⟨rfl,g5⟩;have D6:=Lib.hid (D5.out.gro g5);have O6:=Lib.hid (own_grU HO.out g5);have e0:=D6.out.h0;have e1:=D6.out.h1;have e2:=D6.out.h2;have eb:=(Below.cell g5 (p:=⟨w.heap.size+1,1,none⟩) D5.out.rd.lt).trans rb;have r0:=D6.out.r0;have r1:=D6.out.r1;have r2:=D6.out.r2;have f0:=(D6.out.hf 0 (by decide)).2;have f1:=(D6.out.hf 1 (by decide)).2;have f2:=(D6.out.hf 2 (by decide)).2;clear a0 a1 a2 rb;clear g5)
    refine bodyPost_ret (v:= .tuple #[.agg #[.int .i64 0, .int .i64 0, .slice none 0 0], .int .i64 2]) (by simp[results,Tryz.results81,go_sem, *]) rfl ?_
    exact RetDe.no D6.out.gr HDN.out _ _ _
  by_cases n8:8<N
  ·
   have m1:(0:Int)<(N:Int):=by omega
   have m8:¬(N:Int)≤8:=by omega
   have hk0:k=0:=h8 n8
   subst hk0
   have HDN:Hid (decH L=none):=Lib.hid (decH_n (.inr (by rw[←HN.out];exact n8)))
   have hM:mayH ag xf (ints (arcsAt L 0))=false:=mayH_nil _ _
   clear n1 n8 h8 hk D hown
   by_cases bd:L.length<4*(4+3*0)
   ·
    rw[decide_eq_true bd] at rb
    clear bd
    have hown:=HO.out
    have hlk:(ints (arcsAt L 0)).length=0:=by rw[ints_len,arcsAt_len]
    have HE:=hencode_no ag xf A' c' (ints (arcsAt L 0)) (by rw[ints_len,arcsAt_len];omega) hM _ (Ri.own hown)
    rw[hlk] at HE
    have HE2:=Lib.hid HE
    clear HE hown hlk hM
    go_wp2_with (go_at_call 31;refine HE2.out.mono ?_;rintro e w5 ⟨rfl,g5⟩;have D6:=Lib.hid (D5.out.gro g5);have O6:=Lib.hid (own_grU HO.out g5);have e0:=D6.out.h0;have e1:=D6.out.h1;have e2:=D6.out.h2;have eb:=(Below.cell g5 (p:=⟨w.heap.size+1,1,none⟩) D5.out.rd.lt).trans rb;have r0:=D6.out.r0;have r1:=D6.out.r1;have r2:=D6.out.r2;have f0:=(D6.out.hf 0 (by decide)).2;have f1:=(D6.out.hf 1 (by decide)).2;have f2:=(D6.out.hf 2 (by decide)).2;clear a0 a1 a2 rb;clear g5)
    refine bodyPost_ret (v:= .tuple #[.agg #[.int .i64 0, .int .i64 0, .slice none 0 0], .int .i64 2]) (by simp[results,Tryz.results81,go_sem, *]) rfl ?_
    exact RetDe.no D6.out.gr HDN.out _ _ _
   ·
    rw[decide_eq_false bd] at rb
    clear bd
    have hown:=HO.out
    have hlk:(ints (arcsAt L 0)).length=0:=by rw[ints_len,arcsAt_len]
    have HE:=hencode_no ag xf A' c' (ints (arcsAt L 0)) (by rw[ints_len,arcsAt_len];omega) hM _ (Ri.own hown)
    rw[hlk] at HE
    have HE2:=Lib.hid HE
    clear HE hown hlk hM
    go_wp2_with (go_at_call 31;refine HE2.out.mono ?_;rintro e w5 ⟨rfl,g5⟩;have D6:=Lib.hid (D5.out.gro g5);have O6:=Lib.hid (own_grU HO.out g5);have e0:=D6.out.h0;have e1:=D6.out.h1;have e2:=D6.out.h2;have eb:=(Below.cell g5 (p:=⟨w.heap.size+1,1,none⟩) D5.out.rd.lt).trans rb;have r0:=D6.out.r0;have r1:=D6.out.r1;have r2:=D6.out.r2;have f0:=(D6.out.hf 0 (by decide)).2;have f1:=(D6.out.hf 1 (by decide)).2;have f2:=(D6.out.hf 2 (by decide)).2;clear a0 a1 a2 rb;clear g5)
    refine bodyPost_ret (v:= .tuple #[.agg #[.int .i64 0, .int .i64 0, .slice none 0 0], .int .i64 2]) (by simp[results,Tryz.results81,go_sem, *]) rfl ?_
    exact RetDe.no D6.out.gr HDN.out _ _ _
  have m1:(0:Int)<(N:Int):=by omega
  have m8:(N:Int)≤8:=by omega
  by_cases bd:L.length<4*(4+3*k)
  ·
   rw[decide_eq_true bd] at rb
   have HDN:Hid (decH L=none):=Lib.hid (decH_short bd (by rw[←HN.out];exact hk))
   have hk8:k≤8:=by omega
   clear bd n1 n8 h8 hk D hown
   cases hM:mayH ag xf (ints (arcsAt L k))
   ·
    skip
    have hown:=HO.out
    have hlk:(ints (arcsAt L k)).length=k:=by rw[ints_len,arcsAt_len]
    have HE:=hencode_no ag xf A' c' (ints (arcsAt L k)) (by rw[ints_len,arcsAt_len];omega) hM _ (Ri.own hown)
    rw[hlk] at HE
    have HE2:=Lib.hid HE
    clear HE hown hlk hM
    go_wp2_with (go_at_call 31;refine HE2.out.mono ?_;rintro e w5 ⟨rfl,g5⟩;have D6:=Lib.hid (D5.out.gro g5);have O6:=Lib.hid (own_grU HO.out g5);have e0:=D6.out.h0;have e1:=D6.out.h1;have e2:=D6.out.h2;have eb:=(Below.cell g5 (p:=⟨w.heap.size+1,1,none⟩) D5.out.rd.lt).trans rb;have r0:=D6.out.r0;have r1:=D6.out.r1;have r2:=D6.out.r2;have f0:=(D6.out.hf 0 (by decide)).2;have f1:=(D6.out.hf 1 (by decide)).2;have f2:=(D6.out.hf 2 (by decide)).2;clear a0 a1 a2 rb;clear g5)
    refine bodyPost_ret (v:= .tuple #[.agg #[.int .i64 0, .int .i64 0, .slice none 0 0], .int .i64 2]) (by simp[results,Tryz.results81,go_sem, *]) rfl ?_
    exact RetDe.no D6.out.gr HDN.out _ _ _
   ·
    skip
    have hown:=HO.out
    have HE:=hencode_any ag xf A' c' (arcsAt L k) hM (by rw[arcsAt_len];exact own_capA hown) _ (Ri.own hown)
    rw[arcsAt_len] at HE
    have HE2:=Lib.hid HE
    clear HE hown hM
    go_wp2_with (go_at_call 31;refine HE2.out.mono ?_;rintro e w5 ⟨A5,c5,rfl,hcp,hb5,g5, -⟩;have D6:=Lib.hid (D5.out.gro g5);have O6:=Lib.hid (own_grU HO.out g5);have e0:=D6.out.h0;have e1:=D6.out.h1;have e2:=D6.out.h2;have eb:=(Below.cell g5 (p:=⟨w.heap.size+1,1,none⟩) D5.out.rd.lt).trans rb;have r0:=D6.out.r0;have r1:=D6.out.r1;have r2:=D6.out.r2;have f0:=(D6.out.hf 0 (by decide)).2;have f1:=(D6.out.hf 1 (by decide)).2;have f2:=(D6.out.hf 2 (by decide)).2;clear a0 a1 a2 rb;have HB5:=Lib.hid hb5;clear g5 hb5 hcp)
    refine bodyPost_ret (v:= .tuple #[.agg #[.int .i64 0, .int .i64 0, .slice none 0 0], .int .i64 2]) (by simp[results,Tryz.results81,go_sem, *]) rfl ?_
    exact RetDe.no D6.out.gr HDN.out _ _ _
  rw[decide_eq_false bd] at rb
  by_cases hlt:k<N
  ·
   have m9:(k:Int)<(N:Int):=by omega
   have hk8:k≤8:=by omega
   have hbig:4*(4+3*k)≤L.length:=by omega
   clear bd n1 n8 hk D hown h8
   go_upto_region 9 with (go_at_call 99;refine (D5.out.num (by omega) HL.out.1 HL.out.2.1 HL.out.2.2.1 HL.out.2.2.2.1 HL.out.2.2.2.2).mono ?_;rintro e E1w ⟨rfl,E1d,E1k⟩;have E1:=Lib.hid E1d;have a0:=E1d.h0;have a1:=E1d.h1;have f0:=(E1d.hf 0 (by decide)).1;have f1:=(E1d.hf 1 (by decide)).1;have HK1:=Lib.hid E1k;clear E1d E1k)
   clear a0 a1 f0 f1
   go_upto_region 10 with (go_at_call 99;refine (E1.out.num (by omega) HL.out.1 HL.out.2.1 HL.out.2.2.1 HL.out.2.2.2.1 HL.out.2.2.2.2).mono ?_;rintro e E2w ⟨rfl,E2d,E2k⟩;have E2:=Lib.hid E2d;have a0:=E2d.h0;have a1:=E2d.h1;have f0:=(E2d.hf 0 (by decide)).1;have f1:=(E2d.hf 1 (by decide)).1;have HK2:=Lib.hid E2k;clear E2d E2k)
   clear a0 a1 f0 f1
   have O7:=Lib.hid (own_kpU (own_kpU HO.out HK1.out (by omega)) HK2.out (by omega))
   have a2:=E2.out.h2
   have f2:=(E2.out.hf 2 (by decide)).1
   refine wp_region_Z 9 (LyB2 (w.heap.size+2) (.slice A' k c')) (by kernel_rfl) ?_
   obtain ⟨W0,hW0⟩:∃W0,W0=E2w.drew:=⟨_,rfl⟩
   have g0:Gr E2w W0:=by rw[hW0];exact Gr.drew (Gr.refl _)
   have E3:=Lib.hid (E2.out.gro g0)
   have O8:=Lib.hid (own_grU O7.out g0)
   have hS0:LyB2 (w.heap.size+2) (.slice A' k c') W0:=⟨E3.out.h2,(E3.out.hf 2 (by decide)).1⟩
   rw[←hW0]
   clear hW0 g0 a2 f2
   refine zu 0 rfl hS0 (fun W hS=>by go_simp;rfl) ?_
   refine zu 1 rfl hS0 (fun W hS=>by have s2:=hS.1;go_simp;rfl) ?_
   refine zu 2 rfl hS0 (fun W hS=>by go_simp;rfl) ?_
   refine zu 3 rfl hS0 (fun W hS=>by go_simp;rfl) ?_
   refine wpAnyZ_ready (rs:=[4]) (by kernel_rfl) (by simp) ?_
   refine AllReadyZ.cons (i:=4) rfl (by kernel_rfl) ?zx1 AllReadyZ.nil
   intro K hK
   simp only[List.getElem_toArray,List.getElem_cons_succ,List.getElem_cons_zero]
   go_simp
   refine (E3.out.num (by omega) HL.out.1 HL.out.2.1 HL.out.2.2.1 HL.out.2.2.2.1 HL.out.2.2.2.2).mono ?_;rintro x W4 ⟨rfl,e4,k4⟩
   have O9:=own_kpU O8.out k4 (by omega)
   have hS4:LyB2 (w.heap.size+2) (.slice A' k c') W4:=⟨e4.h2,(e4.hf 2 (by decide)).1⟩
   have E4:=Lib.hid e4
   clear e4 k4 hS0
   go_wp2_with fail
   refine hK.out _ _ (fun hnz=>?zs2) (fun _=>?zr3)
   case zs2=>exact hS4
   clear hK K
   try (simp only[Pu,List.getElem_toArray,List.getElem_cons_succ,List.getElem_cons_zero])
   refine zu 5 rfl hS4 (fun W hS=>by go_simp;rfl) ?_
   refine wpAnyZ_ready (rs:=[6]) (by kernel_rfl) (by simp) ?_
   refine AllReadyZ.cons (i:=6) rfl (by kernel_rfl) ?zx4 AllReadyZ.nil
   intro K hK
   simp only[List.getElem_toArray,List.getElem_cons_succ,List.getElem_cons_zero]
   have hrx:Rd (W4.alloc (.cells #[.int .i64 (numAt L (4+3*k+1):Nat), .int .i64 (numAt L (4+3*k+1+1):Nat)] 69)) 2 (some ⟨W4.heap.size,0,none⟩) 1 (acells [arcAt L k]):=Rd.newU (W:=W4) rfl 69 (acells [arcAt L k]) rfl
   have g5:Gr W4 (W4.alloc (.cells #[.int .i64 (numAt L (4+3*k+1):Nat), .int .i64 (numAt L (4+3*k+1+1):Nat)] 69)):=Gr.alloc (Gr.refl _) _
   go_simp
   refine hK.out _ _ (fun hnz=>?zs5) (fun _=>?zr6)
   case zs5=>exact ⟨(Below.cell g5 (p:=⟨w.heap.size+2,2,none⟩) E4.out.lt).trans hS4.1,(Below.frozen g5 (p:=⟨w.heap.size+2,2,none⟩) E4.out.lt).trans hS4.2⟩
   clear hK K
   try (simp only[Pu,List.getElem_toArray,List.getElem_cons_succ,List.getElem_cons_zero])
   obtain ⟨W5,hW5⟩:∃W5,W5=W4.alloc (.cells #[.int .i64 (numAt L (4+3*k+1):Nat), .int .i64 (numAt L (4+3*k+1+1):Nat)] 69):=⟨_,rfl⟩
   rw[←hW5] at hrx g5 ⊢
   clear hW5
   have E5:=Lib.hid (E4.out.gro g5)
   have O5:=own_grU O9 g5
   have hl5:=O5.lt
   have hsz:=E5.out.lt
   refine wpAnyZ_ready (rs:=[7]) (by kernel_rfl) (by simp) ?_
   refine AllReadyZ.cons (i:=7) rfl (by kernel_rfl) ?zx7 AllReadyZ.nil
   intro K hK
   simp only[List.getElem_toArray,List.getElem_cons_succ,List.getElem_cons_zero]
   refine wp_append_rd0 (.tmp 48) (.tmp 53) 22 rfl (w.heap.size+3) 69 i0 _ 2 16 Tryz.underlying22 hi0 hz0 hz1 hz2 rfl (by decide) _ k _ rfl O5 (some ⟨W4.heap.size,0,none⟩) 1 _ (acells [arcAt L k]) rfl hrx (acells_one _) (by unfold maxLen;omega) (by omega) (by omega) ?_
   intro v' w9 own9 hgr9 hob9
   have k9:Kp (fun q=>(Value.slice A' k c').ownBlock=some q) W5 w9:=(Kp.refl _ _).grown hgr9 (fun q hq=> .inl hq)
   have E9:=Lib.hid (E5.out.kp k9 (E5.out.rd.kp k9 (fun h=>by have:=(hl5 _ h).1;omega)) (fun i hi h=>by have:=(hl5 _ h).1;omega) (fun h=>by have:=(hl5 _ h).1;omega) (fun h=>by have:=(hl5 _ h).1;omega))
   have hS9:LyB2 (w.heap.size+2) (.slice A' k c') w9:=⟨E9.out.h2,(E9.out.hf 2 (by decide)).1⟩
   have HO9:Hid (w9.ownsRow (w.heap.size+3) 69 2 v' (k+1) (acells (arcsAt L (k+1)))):=Lib.hid (by rw[arcsAt,acells_append];exact own9)
   clear own9 hgr9 hob9 k9 hl5 O5 hrx g5
   obtain ⟨A9,c9,hv9⟩:=own_form HO9.out
   subst hv9
   refine hK.out _ _ (fun hnz=>?zs8) (fun _=>?zr9)
   case zs8=>exact hS9
   clear hK K
   try (simp only[Pu,List.getElem_toArray,List.getElem_cons_succ,List.getElem_cons_zero])
   refine zu 8 rfl hS9 (fun W hS=>by go_simp;rfl) ?_
   refine wpAnyZ_ready (rs:=[9]) (by kernel_rfl) (by simp) ?_
   refine AllReadyZ.cons (i:=9) rfl (by kernel_rfl) ?zx10 AllReadyZ.nil
   intro K hK
   simp only[List.getElem_toArray,List.getElem_cons_succ,List.getElem_cons_zero]
   have a2:=hS9.1
   have f2:=hS9.2
   go_simp
   refine hK.out _ _ (fun hnz=>?zs11) (fun _=>?zr12)
   case zs11=>exact absurd rfl hnz
   clear hK K
   try (simp only[Pu,List.getElem_toArray,List.getElem_cons_succ,List.getElem_cons_zero])
   refine wpAnyZ_done (by kernel_rfl) ?_ _
   go_wp2
   go_roundw
   case rel=>exact ⟨k+1, .slice A9 (k+1) c9,by omega,E9.out.put (i:=2) (.slice A9 (k+1) c9) (.inr (.inr ⟨rfl,rfl,rfl,rfl⟩)),own_setU HO9.out (by show w.heap.size+2<w.heap.size+3;omega) _,fun h=>absurd h (by omega)⟩
   case measure=>
    have q1:(w9.setCell ⟨w.heap.size+2,2,none⟩ (.slice A9 (k+1) c9)).cell? ⟨w.heap.size+2,2,none⟩=some (.slice A9 (k+1) c9):=World.cell?_setCell_same' _ _ _ (by rw[E9.out.h2];rfl)
    show N-lenV ((w9.setCell ⟨w.heap.size+2,2,none⟩ (.slice A9 (k+1) c9)).cell? ⟨w.heap.size+2,2,none⟩)<N-lenV (wr.cell? ⟨w.heap.size+2,2,none⟩)
    rw[q1,D5.out.h2]
    show N-(k+1)<N-k
    omega
  ·
   have hkN:k=N:=by omega
   subst hkN
   have m9:¬(k:Int)<(k:Int):=by omega
   have hk8:k≤8:=by omega
   have hlen:16+12*k≤L.length:=by omega
   clear bd n1 n8 h8 hk D hown hlt
   cases hM:mayH ag xf (ints (arcsAt L k))
   ·
    have HDN:Hid (decH L=none):=Lib.hid (decH_no (.inl (by rw[←HN.out,←HAX.out.1,←HAX.out.2];exact hM)))
    have hown:=HO.out
    have hlk:(ints (arcsAt L k)).length=k:=by rw[ints_len,arcsAt_len]
    have HE:=hencode_no ag xf A' c' (ints (arcsAt L k)) (by rw[ints_len,arcsAt_len];omega) hM _ (Ri.own hown)
    rw[hlk] at HE
    have HE2:=Lib.hid HE
    clear HE hown hlk hM
    go_wp2_with (go_at_call 31;refine HE2.out.mono ?_;rintro e w5 ⟨rfl,g5⟩;have D6:=Lib.hid (D5.out.gro g5);have O6:=Lib.hid (own_grU HO.out g5);have e0:=D6.out.h0;have e1:=D6.out.h1;have e2:=D6.out.h2;have eb:=(Below.cell g5 (p:=⟨w.heap.size+1,1,none⟩) D5.out.rd.lt).trans rb;have r0:=D6.out.r0;have r1:=D6.out.r1;have r2:=D6.out.r2;have f0:=(D6.out.hf 0 (by decide)).2;have f1:=(D6.out.hf 1 (by decide)).2;have f2:=(D6.out.hf 2 (by decide)).2;clear a0 a1 a2 rb;clear g5)
    refine bodyPost_ret (v:= .tuple #[.agg #[.int .i64 0, .int .i64 0, .slice none 0 0], .int .i64 2]) (by simp[results,Tryz.results81,go_sem, *]) rfl ?_
    exact RetDe.no D6.out.gr HDN.out _ _ _
   ·
    cases hP:(hdrS ag xf (arcsAt L k)).isPrefixOf L
    ·
     have HDN:Hid (decH L=none):=Lib.hid (decH_no (.inr (by rw[←HN.out,←HAX.out.1,←HAX.out.2];exact hP)))
     have hown:=HO.out
     have HE:=hencode_any ag xf A' c' (arcsAt L k) hM (by rw[arcsAt_len];exact own_capA hown) _ (Ri.own hown)
     rw[arcsAt_len] at HE
     have HE2:=Lib.hid HE
     have HP:=Lib.hid hP
     clear HE hown hM hP
     go_wp2_with (first|(go_at_call 31;refine HE2.out.mono ?_;rintro e w5 ⟨A5,c5,rfl,hcp,hb5,g5, -⟩;have D6:=Lib.hid (D5.out.gro g5);have O6:=Lib.hid (own_grU HO.out g5);have e0:=D6.out.h0;have e1:=D6.out.h1;have e2:=D6.out.h2;have eb:=(Below.cell g5 (p:=⟨w.heap.size+1,1,none⟩) D5.out.rd.lt).trans rb;have r0:=D6.out.r0;have r1:=D6.out.r1;have r2:=D6.out.r2;have f0:=(D6.out.hf 0 (by decide)).2;have f1:=(D6.out.hf 1 (by decide)).2;have f2:=(D6.out.hf 2 (by decide)).2;clear a0 a1 a2 rb;have HB5:=Lib.hid hb5;clear g5 hb5 hcp)|(go_at_call 100;refine (prefix_any A A5 c c5 L (hdrS ag xf (arcsAt L k)) _ (HRB.out.gr D6.out.gr) HB5.out hc).mono ?_;rintro e w6 ⟨rfl,rfl⟩;rw[HP.out]))
     refine bodyPost_ret (v:= .tuple #[.agg #[.int .i64 0, .int .i64 0, .slice none 0 0], .int .i64 2]) (by simp[results,Tryz.results81,go_sem, *]) rfl ?_
     exact RetDe.no D6.out.gr HDN.out _ _ _
    ·
     have HDN:Hid (decH L=some (ag,xf,arcsAt L k)):=Lib.hid (by rw[decH_yes (by rw[←HN.out];exact hlen) (by rw[←HN.out,←HAX.out.1,←HAX.out.2];exact hM) (by rw[←HN.out,←HAX.out.1,←HAX.out.2];exact hP),←HN.out,←HAX.out.1,←HAX.out.2])
     have hown:=HO.out
     have HE:=hencode_any ag xf A' c' (arcsAt L k) hM (by rw[arcsAt_len];exact own_capA hown) _ (Ri.own hown)
     rw[arcsAt_len] at HE
     have HE2:=Lib.hid HE
     have HP:=Lib.hid hP
     clear HE hown hM hP
     go_wp2_with (first|(go_at_call 31;refine HE2.out.mono ?_;rintro e w5 ⟨A5,c5,rfl,hcp,hb5,g5, -⟩;have D6:=Lib.hid (D5.out.gro g5);have O6:=Lib.hid (own_grU HO.out g5);have e0:=D6.out.h0;have e1:=D6.out.h1;have e2:=D6.out.h2;have eb:=(Below.cell g5 (p:=⟨w.heap.size+1,1,none⟩) D5.out.rd.lt).trans rb;have r0:=D6.out.r0;have r1:=D6.out.r1;have r2:=D6.out.r2;have f0:=(D6.out.hf 0 (by decide)).2;have f1:=(D6.out.hf 1 (by decide)).2;have f2:=(D6.out.hf 2 (by decide)).2;clear a0 a1 a2 rb;have HB5:=Lib.hid hb5;clear g5 hb5 hcp)|(go_at_call 100;refine (prefix_any A A5 c c5 L (hdrS ag xf (arcsAt L k)) _ (HRB.out.gr D6.out.gr) HB5.out hc).mono ?_;rintro e w6 ⟨rfl,rfl⟩;rw[HP.out]))
     refine bodyPost_ret (v:= .tuple #[.agg #[.int .i64 ag, .int .i64 xf, .slice A' k c'], .int .i64 0]) (by simp[results,Tryz.results81,go_sem, *]) rfl ?_
     exact RetDe.yes D6.out.gr HDN.out O6.out (own_capA HO.out)
theorem FsM.more {Y Y':Nat→Prop} {w w':World} {F P M:Nat} {R:Option Nat} {room:Int} {n:Nat} {D:Option (List UInt8)} (h:FsM Y w F P M R room n D) (g:Gr w w') (h1:∀k,Y' k→Y k∨w.heap.size≤k) (h2:∀k,Y' k→k<w'.heap.size):FsM Y' w' F P M R room n D:=by
 have h':=h.gr g
 refine ⟨h'.lf,h'.lp,h'.lm,h'.nfp,h'.nfm,h'.npm,h'.f0,h'.f1,h'.f2,h'.p0,h'.p1,h'.z0,h'.z1,h'.rr,h2,?_⟩
 cases D with
 | none=>exact h'.mp
 | some l=>
  obtain ⟨clk,born,A,c,hb,hc,hr,hx⟩:=h.mp
  obtain ⟨o',ho⟩:∃o',w.heap[M]?=some o':=⟨_,hb⟩
  have h3:=(hx.imp (Q':=fun q=>q≠P∧q≠M∧R≠some q∧¬Y' q) (fun q hq hx=>⟨hx.1,hx.2.1,hx.2.2.1,fun e=>by
   rcases h1 q e with e|e
   ·
    exact hx.2.2.2 e
   ·
    omega⟩)).kp (Kp.of_gr (fun _=>False) g) (fun _ _ _ e=>e) hr
  exact ⟨clk,born,A,c,(Below.block g M h.lm).trans hb,hc,h3.1,h3.2⟩
structure FiM (w:World) (X F P M:Nat) (R:Option Nat) (room:Int) (n ag xf:Nat) (b c:Nat) (m:Arcs) (g d:Nat) (D:List UInt8):Prop where
 lX:X<w.heap.size
 lb:b<w.heap.size
 lg:g<w.heap.size
 x0:w.cell? ⟨X,0,none⟩=some (.int .i64 ag)
 x1:w.cell? ⟨X,1,none⟩=some (.int .i64 xf)
 x2:w.cell? ⟨X,2,none⟩=some (.slice (some ⟨b,0,none⟩) m.length c)
 x3:w.cell? ⟨X,3,none⟩=some (.pointer (some ⟨F,0,none⟩))
 x4:w.cell? ⟨X,4,none⟩=some (.string nmA)
 x5:w.cell? ⟨X,5,none⟩=some (.slice (some ⟨g,0,none⟩) D.length d)
 may:mayH ag xf (ints m)=true
 cap:m.length≤c
 len:D.length=sizeS m
 ri:Ri w (some ⟨b,0,none⟩) (ints m)
 row:w.ownsRow 0 5 1 (.slice (some ⟨g,0,none⟩) D.length d) D.length (bys D)
 fs:FsM (fun k=>k=g) w F P M R room n (some D)
 nX:X≠F∧X≠P∧X≠M∧X≠g∧R≠some X
 nb:b≠F∧b≠P∧b≠M∧b≠g∧R≠some b
 ng:g≠F∧g≠P∧g≠M∧R≠some g
theorem FiM.gr {w w':World} {X F P M:Nat} {R:Option Nat} {room:Int} {n ag xf b c:Nat} {m:Arcs} {g d:Nat} {D:List UInt8} (h:FiM w X F P M R room n ag xf b c m g d D) (k:Gr w w'):FiM w' X F P M R room n ag xf b c m g d D:=
 ⟨Nat.lt_of_lt_of_le h.lX k.size,Nat.lt_of_lt_of_le h.lb k.size,Nat.lt_of_lt_of_le h.lg k.size,(Below.cell k (p:=⟨X,0,none⟩) h.lX).trans h.x0,(Below.cell k (p:=⟨X,1,none⟩) h.lX).trans h.x1,(Below.cell k (p:=⟨X,2,none⟩) h.lX).trans h.x2,(Below.cell k (p:=⟨X,3,none⟩) h.lX).trans h.x3,(Below.cell k (p:=⟨X,4,none⟩) h.lX).trans h.x4,(Below.cell k (p:=⟨X,5,none⟩) h.lX).trans h.x5,h.may,h.cap,h.len,h.ri.gr k,own_grU h.row k,h.fs.gr k,h.nX,h.nb,h.ng⟩
theorem FiM.arc {w:World} {X F P M:Nat} {R:Option Nat} {room:Int} {n ag xf b c:Nat} {m:Arcs} {g d:Nat} {D:List UInt8} (h:FiM w X F P M R room n ag xf b c m g d D) {i:Nat} (hi:i<m.length):w.cell? ⟨b,i*2,none⟩=some (.int .i64 (stpS m i:Nat))∧w.cell? ⟨b,i*2+1,none⟩=some (.int .i64 (cntS m i:Nat)):=by
 obtain ⟨-,hc⟩:=h.ri.rows (by rw[ints_len];omega)
 have:=hc i (by rw[ints_len];exact hi)
 rw[ints_at m i hi] at this
 rw[stpS_at hi,cntS_at hi]
 exact this
def Tcg (P M:Nat) (R:Option Nat) (g:Nat) (k:Nat):Prop:=Tch P M R k∨k=g
theorem FiM.turn {w w1 w2:World} {X F P M:Nat} {R R':Option Nat} {room:Int} {n n' ag xf b c:Nat} {m:Arcs} {g d:Nat} {D D':List UInt8} (h:FiM w X F P M R room n ag xf b c m g d D) (k1:Kp (Tch P M R) w w1) (hf:FsM (fun k=>k=g) w1 F P M R' room n' (some D')) (hR:∀i,R'=some i→R=some i∨w.heap.size≤i)
  (k2:Kp (fun k=>k=g) w1 w2) (hl:D'.length=D.length) (hrow:w2.ownsRow 0 5 1 (.slice (some ⟨g,0,none⟩) D'.length d) D'.length (bys D')):FiM w2 X F P M R' room n' ag xf b c m g d D'∧Kp (Tcg P M R g) w w2:=by
 have K:Kp (Tcg P M R g) w w2:=(k1.mono (S2:=Tcg P M R g) (fun i _ hi=> .inl hi)).trans k2 (fun i _ hi=> .inr hi)
 have nX:¬Tcg P M R g X:=fun e=>by
  obtain ⟨a1,a2,a3,a4,a5⟩:=h.nX
  rcases e with (e|e|e)|e
  ·
   exact a2 e
  ·
   exact a3 e
  ·
   exact a5 e
  ·
   exact a4 e
 have nb:¬Tcg P M R g b:=fun e=>by
  obtain ⟨a1,a2,a3,a4,a5⟩:=h.nb
  rcases e with (e|e|e)|e
  ·
   exact a2 e
  ·
   exact a3 e
  ·
   exact a5 e
  ·
   exact a4 e
 have hn:∀q,q<w.heap.size→R≠some q→R'≠some q:=fun q hq h1 e=>by
  rcases hR q e with e|e
  ·
   exact h1 e
  ·
   omega
 have gF:¬g=F:=h.ng.1
 have cl:=K.cell (a:=⟨X,0,none⟩) h.lX nX
 refine ⟨⟨Nat.lt_of_lt_of_le h.lX K.size,Nat.lt_of_lt_of_le h.lb K.size,Nat.lt_of_lt_of_le h.lg K.size,cl.trans h.x0,(K.cell (a:=⟨X,1,none⟩) h.lX nX).trans h.x1,(K.cell (a:=⟨X,2,none⟩) h.lX nX).trans h.x2,(K.cell (a:=⟨X,3,none⟩) h.lX nX).trans h.x3,(K.cell (a:=⟨X,4,none⟩) h.lX nX).trans h.x4,((K.cell (a:=⟨X,5,none⟩) h.lX nX).trans h.x5).trans (by rw[hl]),h.may,h.cap,hl.trans h.len,?_,hrow,?_,⟨h.nX.1,h.nX.2.1,h.nX.2.2.1,h.nX.2.2.2.1,hn X h.lX h.nX.2.2.2.2⟩,⟨h.nb.1,h.nb.2.1,h.nb.2.2.1,h.nb.2.2.2.1,hn b h.lb h.nb.2.2.2.2⟩,⟨h.ng.1,h.ng.2.1,h.ng.2.2.1,hn g h.lg h.ng.2.2.2⟩⟩,K⟩
 ·
  refine Ri.of_rows fun h0=>?_
  obtain ⟨hb,hc⟩:=h.ri.rows h0
  exact ⟨Nat.lt_of_lt_of_le hb K.size,fun k hk=>⟨(K.cell (a:=⟨b,k*2,none⟩) hb nb).trans (hc k hk).1,(K.cell (a:=⟨b,k*2+1,none⟩) hb nb).trans (hc k hk).2⟩⟩
 ·
  refine hf.kp k2 (fun e=>gF e.symm) (fun e=>h.ng.2.1 e.symm) (fun e=>h.ng.2.2.1 e.symm) (fun i hi e=>?_) (fun q _ e=> .inr (.inr (.inr (.inr (.inr (.inr e))))))
  subst e
  exact hn _ h.lg h.ng.2.2.2 hi
theorem FiM.slot {w:World} {X F P M:Nat} {R:Option Nat} {room:Int} {n ag xf b c:Nat} {m:Arcs} {g d:Nat} {D:List UInt8} (h:FiM w X F P M R room n ag xf b c m g d D) {k:Nat} (hk:k+12≤D.length):(slotS D k).length=12∧Rb w (some ⟨g,k,none⟩) (slotS D k):=by
 have hl:(slotS D k).length=12:=by unfold slotS;rw[List.length_take,List.length_drop];omega
 refine ⟨hl,?_⟩
 have hr:Rb w (some ⟨g,0,none⟩) D:=Rb.own h.row
 refine ⟨by rw[bys_length],fun _=>⟨⟨g,k,none⟩,rfl,h.lg,fun j u hu=>?_⟩⟩
 obtain ⟨ad,e, -,hc⟩:=hr.2 (by omega)
 injection e with e
 subst e
 have hj:j<12:=by
  rcases Nat.lt_or_ge j 12 with h1|h1
  ·
   exact h1
  ·
   rw[List.getElem?_eq_none (by rw[bys_length];omega)] at hu;cases hu
 have:=hc (k+j) u (by
  rw[←hu]
  simp only[bys,slotS,List.getElem?_map,List.getElem?_take,List.getElem?_drop]
  rw[if_pos hj])
 rw[show (⟨g,0,none⟩:Addr).add (k+j)=⟨g,k+j,none⟩ by simp[Addr.add];omega] at this
 rw[←this]
 congr 1
 simp[Addr.add]
theorem wplace_any {X F P M:Nat} {R:Option Nat} {room:Int} {n ag xf b c:Nat} {m:Arcs} {g d:Nat} {D:List UInt8} (i:Nat) (hi:i<m.length) (t:Int) (ht:t≤9223372036854775807) (w:World) (h:FiM w X F P M R room n ag xf b c m g d D):Calls Tryz.prog 96 #[.pointer (some ⟨X,0,none⟩), .int .i64 i, .int .i64 t] w fun e w'=>e= .returned (.int .i64 (atS m i t:Nat))∧Gr w w':=by
 have hF:=MayF.ofH h.may
 have hof:=fun W (gW:Gr w W)=>offset_any ag xf (some ⟨b,0,none⟩) c m h.may h.cap i hi W (h.ri.gr gW)
 have hst:=hF.s1 i hi
 have hct:=hF.c1 i hi
 have hpl:=fun W=>place_any (stpS m i) (cntS m i) t ht (by omega) (by omega) W
 have hpn:=placeS_nat hct.1 t
 have hp0:=(placeS_lt (step:=(stpS m i:Int)) (count:=(cntS m i:Int)) (t:=t) (by omega)).1
 have hof2:offS m i≤1048576:=Nat.le_trans (offS_le (by omega)) hF.sz
 have hat:atS m i t=offS m i+12*(placeS (stpS m i) (cntS m i) t).toNat:=rfl
 obtain ⟨pl,hpv⟩:∃pl:Nat,placeS (stpS m i) (cntS m i) t=(pl:Int):=⟨(placeS (stpS m i) (cntS m i) t).toNat,by omega⟩
 rw[hpv] at hpl hat hpn
 rw[Int.toNat_natCast] at hat hpn
 have hpi:(pl:Int)≤16777216:=by omega
 have hofi:(offS m i:Int)≤1048576:=by omega
 have hw1:IntKind.i64.wrap (12*(pl:Int))=12*(pl:Int):=IntWalk.i64_in _ (by omega)
 have hw2:IntKind.i64.wrap ((offS m i:Int)+12*(pl:Int))=(offS m i:Int)+12*(pl:Int):=IntWalk.i64_in _ (by omega)
 have hmi:(i:Int)<(m.length:Int):=by omega
 have hm8:(m.length:Int)≤8:=by have:=hF.l8;omega
 have HE:Hid (((offS m i:Nat):Int)+12*(pl:Int)=((atS m i t:Nat):Int)):=Lib.hid (by rw[hat];omega)
 have H0:=Lib.hid h
 have HI:=Lib.hid hi
 have HOF:=Lib.hid hof
 have HPL:=Lib.hid hpl
 clear h hi hF hof hpl hst hct hpn hp0 hof2 hat hpv ht
 go_enter Tryz.func96,Tryz.ntmps96
 go_upto_region 1 with (fail)
 refine region_Q (by kernel_rfl) (by kernel_rfl) ?_
 iterate 3 (refine qv ?_;simp only[Pu])
 refine q_val (v:=?qv4) (by rfl) (fun W hW=>?qh4) ?qr4
 case qh4=>have s0:=(H0.out.gr hW).x0;have s1:=(H0.out.gr hW).x1;have s2:=(H0.out.gr hW).x2;go_simp;rfl
 simp only[Pu]
 refine qv ?_;simp only[Pu]
 refine q_call (v:= .int .i64 (offS m i:Nat)) (f:=?qf6) (args:=?qa6) (by rfl) (fun W hW=>?qh6) (fun W hW=>?qc6) ?qr6
 case qh6=>go_simp;constructor<;>rfl
 case qc6=>exact (HOF.out W hW).mono (fun e w' h=>⟨h.1,Gr.trans hW h.2⟩)
 simp only[Pu]
 iterate 4 (refine qv ?_;simp only[Pu])
 refine q_val (v:=?qv11) (by rfl) (fun W hW=>?qh11) ?qr11
 case qh11=>have s0:=(H0.out.gr hW).x0;have s1:=(H0.out.gr hW).x1;have s2:=(H0.out.gr hW).x2;go_simp;rfl
 simp only[Pu]
 iterate 2 (refine qv ?_;simp only[Pu])
 refine q_val (v:=?qv14) (by rfl) (fun W hW=>?qh14) ?qr14
 case qh14=>obtain ⟨a0,a1⟩:=(H0.out.gr hW).arc HI.out;go_simp;rfl
 simp only[Pu]
 refine qv ?_;simp only[Pu]
 refine q_call (v:= .int .i64 (pl:Nat)) (f:=?qf16) (args:=?qa16) (by rfl) (fun W hW=>?qh16) (fun W hW=>?qc16) ?qr16
 case qh16=>go_simp;constructor<;>rfl
 case qc16=>exact (HPL.out W).mono (fun e w' h=>⟨h.1,Gr.trans hW h.2⟩)
 simp only[Pu]
 iterate 3 (refine qv ?_;simp only[Pu])
 refine wpQuiet_nil ?_
 intro w1 g1
 have HG1:=Lib.hid g1
 clear g1
 go_wp2
 go_ret
 exact ⟨ret_i HE.out,HG1.out⟩
theorem align_facts {t step:Int} (h:1≤step) (h':0≤t):0≤alignS t step∧alignS t step≤t:=by
 rw[alignS_of h h']
 have:=emod_le' h' h
 have:=Int.emod_nonneg t (b:=step) (by omega)
 omega
def RetVl (v:Vl) (w:World) (e:Ending) (w':World):Prop:=e= .returned (.agg #[.bool v.ok, .int .i64 v.n])∧Gr w w'
theorem whas_any {X F P M:Nat} {R:Option Nat} {room:Int} {n ag xf b c:Nat} {m:Arcs} {g d:Nat} {D:List UInt8} (i:Nat) (hi:i<m.length) (t:Int) (h0:0≤t) (ht:t≤4611686018427387904) (w:World) (h:FiM w X F P M R room n ag xf b c m g d D):Calls Tryz.prog 75 #[.pointer (some ⟨X,0,none⟩), .int .i64 i, .int .i64 t] w (RetVl (hasV m D i t) w):=by
 obtain ⟨V,hV⟩:∃V,V=w.alloc (.cells #[.bool false, .int .i64 0] 107):=⟨_,rfl⟩
 have gV:Gr w V:=by rw[hV];exact Gr.alloc (Gr.refl w) _
 have hz:w.heap.size<V.heap.size:=by rw[hV];simp
 have b0:V.cell? ⟨w.heap.size,0,none⟩=some (.bool false):=by rw[hV];go_simp
 have b1:V.cell? ⟨w.heap.size,1,none⟩=some (.int .i64 0):=by rw[hV];go_simp
 have f0:V.frozen? ⟨w.heap.size,0,none⟩=false:=by rw[hV];go_simp
 have f1:V.frozen? ⟨w.heap.size,1,none⟩=false:=by rw[hV];go_simp
 have hF:=MayF.ofH h.may
 have hst:=hF.s1 i hi
 obtain ⟨T,hT⟩:∃T,T=alignS t (stpS m i):=⟨_,rfl⟩
 have hTf:=align_facts (t:=t) (step:=(stpS m i:Int)) (by omega) h0
 have hal:=fun W=>align_any t (stpS m i) (by omega) W
 rw[←hT] at hTf hal
 have hVal:hasV m D i t=if T<1 then ⟨false,0⟩ else seenS m D i T:=by unfold hasV;rw[←hT]
 rw[hVal]
 have hFi:=h.gr gV
 have x2:=hFi.x2
 have x5:=hFi.x5
 have lX:=hFi.lX
 obtain ⟨a0,a1⟩:=hFi.arc hi
 have hmi:(i:Int)<(m.length:Int):=by omega
 have hm8:(m.length:Int)≤8:=by have:=hF.l8;omega
 have HV:=Lib.hid hV
 have HAL:=Lib.hid hal
 by_cases hT1:T<1
 ·
  rw[if_pos hT1]
  have GV:=Lib.hid gV
  have HV0:=Lib.hid (rfl:(0:Nat)=0)
  clear hV gV h hF hal hVal hT hTf hst hi h0 ht hFi
  go_enter Tryz.func75,Tryz.ntmps75
  go_upto_region 1 with (fail)
  rw[←HV.out]
  clear HV
  go_wp2_with (go_at_call 74;refine (HAL.out _).mono ?_;rintro e w1 ⟨rfl,rfl⟩)
  exact bodyPost_ret (v:= .agg #[.bool false, .int .i64 0]) (by simp[results,Tryz.results75,go_sem, *]) rfl ⟨rfl,((GV.out.setCell (p:=⟨w.heap.size,0,none⟩) (Nat.le_refl _) _).setCell (p:=⟨w.heap.size,1,none⟩) (Nat.le_refl _) _)⟩
 ·
  rw[if_neg hT1]
  have hpl:=fun W (gW:Gr V W)=>wplace_any i hi T (by omega) W (hFi.gr gW)
  obtain ⟨k,hk⟩:∃k,k=atS m i T:=⟨_,rfl⟩
  rw[←hk] at hpl
  have hkin:k+12≤D.length:=by rw[hk,h.len];exact (atS_in hF hi T).2
  have hsl:=(h.slot hkin).1
  have hde:=fun W c' (gW:Gr V W)=>decode_any (some ⟨g,k,none⟩) c' (slotS D k) hsl W ((hFi.gr gW).slot hkin).2
  rw[hsl] at hde
  obtain ⟨S,hS⟩:∃S,S=decT (slotS D k):=⟨_,rfl⟩
  obtain ⟨N,hN⟩:∃N,N=decN (slotS D k):=⟨_,rfl⟩
  have hsv:seenS m D i T=if S=T then ofV N else ⟨false,0⟩:=by unfold seenS;rw[←hk,←hS,←hN]
  rw[hsv]
  rw[←hS,←hN] at hde
  have hcap:=own_capA h.row
  have hlen:(D.length:Int)≤1048576:=by have:=h.len;have:=hF.sz;omega
  have hki:(k:Int)+12≤(D.length:Int):=by omega
  have hkd:(k:Int)+12≤(d:Int):=by omega
  have hw1:IntKind.i64.wrap ((k:Int)+12)=(k:Int)+12:=IntWalk.i64_in _ (by omega)
  have hw2:((k:Int)+12-(k:Int)).toNat=12:=by omega
  have GV:=Lib.hid gV
  have HPL:=Lib.hid hpl
  have HDE:=Lib.hid hde
  have hT1':¬T<1:=hT1
  clear hV gV h hF hal hVal hT hTf hst hi h0 ht hFi hpl hk hkin hsl hde hS hN hsv hlen
  by_cases hST:S=T
  ·
   rw[if_pos hST]
   subst hST
   obtain ⟨vo,vn,hv⟩:∃vo vn,ofV N=⟨vo,vn⟩:=⟨_,_,rfl⟩
   have HO:=Lib.hid (fun W=>of_any N W)
   rw[hv] at HO ⊢
   clear hv
   go_enter Tryz.func75,Tryz.ntmps75
   go_upto_region 1 with (fail)
   rw[←HV.out]
   clear HV
   go_wp2_with (first|(go_at_call 74;refine (HAL.out _).mono ?_;rintro e w1 ⟨rfl,rfl⟩)|(go_at_call 96;refine (HPL.out _ (Gr.refl _)).mono ?_;rintro e w2 ⟨rfl,g2⟩;have c0:=(Below.cell g2 (p:=⟨w.heap.size,0,none⟩) hz).trans b0;have c1:=(Below.cell g2 (p:=⟨w.heap.size,1,none⟩) hz).trans b1;have k0:=(Below.frozen g2 (p:=⟨w.heap.size,0,none⟩) hz).trans f0;have k1:=(Below.frozen g2 (p:=⟨w.heap.size,1,none⟩) hz).trans f1;have s5:=(Below.cell g2 (p:=⟨X,5,none⟩) lX).trans x5;have HG2:=Lib.hid g2;have hz2:=Nat.lt_of_lt_of_le hz g2.size;clear g2)|(go_at_call 65;refine (HDE.out _ _ HG2.out).mono ?_;rintro e w3 ⟨rfl,g3⟩;have e0:=(Below.cell g3 (p:=⟨w.heap.size,0,none⟩) hz2).trans c0;have e1:=(Below.cell g3 (p:=⟨w.heap.size,1,none⟩) hz2).trans c1;have l0:=(Below.frozen g3 (p:=⟨w.heap.size,0,none⟩) hz2).trans k0;have l1:=(Below.frozen g3 (p:=⟨w.heap.size,1,none⟩) hz2).trans k1;have HG3:=Lib.hid (HG2.out.trans g3);have hz3:=Nat.lt_of_lt_of_le hz2 g3.size;clear g3)|(go_at_call 89;refine (HO.out _).mono ?_;rintro e w4 ⟨rfl,g4⟩;have p0:w4.cell? ⟨w.heap.size,0,none⟩=some (.bool false):=(Below.cell g4 (p:=⟨w.heap.size,0,none⟩) (by simp;omega)).trans (by go_simp);have p1:w4.cell? ⟨w.heap.size,1,none⟩=some (.int .i64 0):=(Below.cell g4 (p:=⟨w.heap.size,1,none⟩) (by simp;omega)).trans (by go_simp);have r0:w4.frozen? ⟨w.heap.size,0,none⟩=false:=(Below.frozen g4 (p:=⟨w.heap.size,0,none⟩) (by simp;omega)).trans (by go_simp);have r1:w4.frozen? ⟨w.heap.size,1,none⟩=false:=(Below.frozen g4 (p:=⟨w.heap.size,1,none⟩) (by simp;omega)).trans (by go_simp);have HG4:=Lib.hid ((HG3.out.alloc (.cells #[.int .i64 S, .int .i64 N] 54)).trans g4);clear g4))
   exact bodyPost_ret (v:= .agg #[.bool vo, .int .i64 vn]) (by simp[results,Tryz.results75,go_sem, *]) rfl ⟨rfl,((GV.out.trans HG4.out).setCell (p:=⟨w.heap.size,0,none⟩) (Nat.le_refl _) _).setCell (p:=⟨w.heap.size,1,none⟩) (Nat.le_refl _) _⟩
  ·
   rw[if_neg hST]
   go_enter Tryz.func75,Tryz.ntmps75
   go_upto_region 1 with (fail)
   rw[←HV.out]
   clear HV
   go_wp2_with (first|(go_at_call 74;refine (HAL.out _).mono ?_;rintro e w1 ⟨rfl,rfl⟩)|(go_at_call 96;refine (HPL.out _ (Gr.refl _)).mono ?_;rintro e w2 ⟨rfl,g2⟩;have c0:=(Below.cell g2 (p:=⟨w.heap.size,0,none⟩) hz).trans b0;have c1:=(Below.cell g2 (p:=⟨w.heap.size,1,none⟩) hz).trans b1;have k0:=(Below.frozen g2 (p:=⟨w.heap.size,0,none⟩) hz).trans f0;have k1:=(Below.frozen g2 (p:=⟨w.heap.size,1,none⟩) hz).trans f1;have s5:=(Below.cell g2 (p:=⟨X,5,none⟩) lX).trans x5;have HG2:=Lib.hid g2;have hz2:=Nat.lt_of_lt_of_le hz g2.size;clear g2)|(go_at_call 65;refine (HDE.out _ _ HG2.out).mono ?_;rintro e w3 ⟨rfl,g3⟩;have e0:=(Below.cell g3 (p:=⟨w.heap.size,0,none⟩) hz2).trans c0;have e1:=(Below.cell g3 (p:=⟨w.heap.size,1,none⟩) hz2).trans c1;have l0:=(Below.frozen g3 (p:=⟨w.heap.size,0,none⟩) hz2).trans k0;have l1:=(Below.frozen g3 (p:=⟨w.heap.size,1,none⟩) hz2).trans k1;have HG3:=Lib.hid (HG2.out.trans g3);have hz3:=Nat.lt_of_lt_of_le hz2 g3.size;clear g3))
   exact bodyPost_ret (v:= .agg #[.bool false, .int .i64 0]) (by simp[results,Tryz.results75,go_sem, *]) rfl ⟨rfl,(((GV.out.trans HG3.out).setCell (p:=⟨w.heap.size,0,none⟩) (Nat.le_refl _) _).setCell (p:=⟨w.heap.size,1,none⟩) (Nat.le_refl _) _).alloc _⟩
theorem arc_at {m:Arcs} {i:Nat} (h:i<m.length):m[i]=(stpS m i,cntS m i):=by rw[stpS_at h,cntS_at h]
theorem wreaches_any {X F P M:Nat} {R:Option Nat} {room:Int} {n ag xf b c:Nat} {m:Arcs} {g d:Nat} {D:List UInt8} (i:Nat) (hi:i<m.length) (t now:Int) (h0:0≤t) (hn:t≤now) (hn4:now≤4294967295) (w:World) (h:FiM w X F P M R room n ag xf b c m g d D):Calls Tryz.prog 104 #[.pointer (some ⟨X,0,none⟩), .int .i64 i, .int .i64 t, .int .i64 now] w fun e w'=>e= .returned (.bool (reachB m[i] t now))∧Gr w w':=by
 have hF:=MayF.ofH h.may
 have hst:=hF.s1 i hi
 have hct:=hF.c1 i hi
 obtain ⟨a0,a1⟩:=h.arc hi
 rw[arc_at hi]
 have x2:=h.x2
 have hmi:(i:Int)<(m.length:Int):=by omega
 have hm8:(m.length:Int)≤8:=by have:=hF.l8;omega
 generalize stpS m i=S at *
 generalize cntS m i=C at *
 have hv:reachB (S,C) t now=decide (now-t<(S:Int)*C):=by unfold reachB;rw[decide_eq_true hn,Bool.true_and]
 rw[hv]
 have hp:=prod_small S C (by omega) (by omega) (by omega) (by omega)
 have hs:IntKind.i64.wrap (now-t)=now-t:=IntWalk.i64_in _ (by omega)
 obtain ⟨V,hV⟩:∃V,V=w.alloc (.cells #[.int .i64 S, .int .i64 C] 69):=⟨_,rfl⟩
 have gV:Gr w V:=by rw[hV];exact Gr.alloc (Gr.refl w) _
 have b0:V.cell? ⟨w.heap.size,0,none⟩=some (.int .i64 S):=by rw[hV];go_simp
 have b1:V.cell? ⟨w.heap.size,1,none⟩=some (.int .i64 C):=by rw[hV];go_simp
 have HV:=Lib.hid hV
 have GV:=Lib.hid gV
 clear hV gV h hF hst hct hi hv
 by_cases hlt:now-t<(S:Int)*C
 ·
  rw[decide_eq_true hlt]
  go_enter Tryz.func104,Tryz.ntmps104
  go_upto_region 2 with (fail)
  rw[←HV.out]
  clear HV
  go_wp2
  go_ret
  exact ⟨rfl,GV.out⟩
 ·
  rw[decide_eq_false hlt]
  go_enter Tryz.func104,Tryz.ntmps104
  go_upto_region 2 with (fail)
  rw[←HV.out]
  clear HV
  go_wp2
  go_ret
  exact ⟨rfl,GV.out⟩
theorem first_at {m:Arcs} {t now:Int} {k:Nat} (hk:k<m.length) (h:reachB m[k] t now=true) (hb:∀j (hj:j<m.length),j<k→reachB m[j] t now=false):firstS m t now=k:=by
 unfold firstS
 exact (List.findIdx_eq hk).2 ⟨h,fun j hj=>hb j (by omega) hj⟩
theorem first_none {m:Arcs} {t now:Int} (hb:∀j (hj:j<m.length),reachB m[j] t now=false):firstS m t now=m.length:=by
 unfold firstS
 refine List.findIdx_eq_length.2 fun x hx=>?_
 obtain ⟨j,hj,e⟩:=List.mem_iff_getElem.1 hx
 rw[←e]
 exact hb j hj
theorem wfirst_any {X F P M:Nat} {R:Option Nat} {room:Int} {n ag xf b c:Nat} {m:Arcs} {g d:Nat} {D:List UInt8} (t now:Int) (h0:0≤t) (hn:t≤now) (hn4:now≤4294967295) (w:World) (h:FiM w X F P M R room n ag xf b c m g d D):Calls Tryz.prog 90 #[.pointer (some ⟨X,0,none⟩), .int .i64 t, .int .i64 now] w fun e w'=>e= .returned (.int .i64 (firstS m t now:Nat))∧Gr w w':=by
 have hF:=MayF.ofH h.may
 have x2:=h.x2
 have lX:=h.lX
 have hm8:(m.length:Int)≤8:=by have:=hF.l8;omega
 have HR:=Lib.hid (fun (i:Nat) (hi:i<m.length) (W:World) (gW:Gr w W)=>wreaches_any i hi t now h0 hn hn4 W (h.gr gW))
 clear h hF hn hn4 h0
 go_enter Tryz.func90,Tryz.ntmps90
 go_wp2
 go_loopw [14] (fun j wr=>∃k:Nat,k≤m.length∧j= .int .i64 k∧Gr w wr∧Hid (∀j (hj:j<m.length),j<k→reachB m[j] t now=false)) (fun j _=>m.length-(intOf j).toNat)
 case atStart=>exact ⟨0,Nat.zero_le _,rfl,Gr.refl _,Lib.hid fun _ _ h=>absurd h (Nat.not_lt_zero _)⟩
 case round=>
  obtain ⟨k,hk,rfl,hgr,HB⟩:=hrel
  have y2:=(Below.cell hgr (p:=⟨X,2,none⟩) lX).trans x2
  by_cases hlt:k<m.length
  ·
   have hlti:(k:Int)<(m.length:Int):=by omega
   have HG:=Lib.hid hgr
   have HK:=Lib.hid hlt
   have HS:=Lib.hid (fun hb:reachB (m[k]'HK.out) t now=true=>first_at HK.out hb HB.out)
   have HN:=Lib.hid (fun hb:reachB (m[k]'HK.out) t now=false=>(fun (j:Nat) (hj:j<m.length) (hjk:j<k+1)=>(by
    rcases Nat.lt_or_ge j k with e|e
    ·
     exact HB.out j hj e
    ·
     obtain rfl:j=k:=by omega
     exact hb):∀j (hj:j<m.length),j<k+1→reachB m[j] t now=false))
   obtain ⟨r,hr⟩:∃r,r=reachB (m[k]'HK.out) t now:=⟨_,rfl⟩
   have HC:Hid (∀W,Gr w W→Calls Tryz.prog 104 #[.pointer (some ⟨X,0,none⟩), .int .i64 k, .int .i64 t, .int .i64 now] W fun e w'=>e= .returned (.bool r)∧Gr W w'):=Lib.hid (fun W gW=>by rw[hr];exact HR.out k HK.out W gW)
   rw[←hr] at HS HN
   clear hgr hlt hr
   cases r with
   | true=>
    have HS2:Hid (firstS m t now=k):=Lib.hid (HS.out rfl)
    clear HN HS
    go_wp2_with (go_at_call 104;refine (HC.out _ HG.out).mono ?_;rintro e w1 ⟨rfl,g1⟩;have HG1:=Lib.hid (HG.out.trans g1);clear g1)
    go_ret
    exact ⟨ret_i (by rw[HS2.out]),HG1.out⟩
   | false=>
    have HN2:Hid (∀j (hj:j<m.length),j<k+1→reachB m[j] t now=false):=Lib.hid (HN.out rfl)
    clear HS HN
    go_wp2_with (go_at_call 104;refine (HC.out _ HG.out).mono ?_;rintro e w1 ⟨rfl,g1⟩;have HG1:=Lib.hid (HG.out.trans g1);clear g1)
    go_roundw
    case rel=>exact ⟨k+1,by omega,by go_num,HG1.out,HN2⟩
    case measure=>simp[intOf];omega
  ·
   have hkk:k=m.length:=by omega
   subst hkk
   have HN:=Lib.hid (first_none (t:=t) (now:=now) (fun j hj=>HB.out j hj hj))
   go_wp2
   go_ret
   exact ⟨ret_i (by rw[HN.out]),hgr⟩
end Go.Proofs.YtoncapkmaeghfaaGreat
