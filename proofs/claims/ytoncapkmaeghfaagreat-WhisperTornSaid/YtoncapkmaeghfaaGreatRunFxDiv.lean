import Derived.Test.YtoncapkmaeghfaaGreatRunFxWalk
import Derived.Test.YtoncapkmaeghfaaGreatBits
import Derived.BigQuiet
import Derived.Deep.QuietTactic
import Derived.Laws.Bits64b
import Derived.Outline
import Derived.Lib.Hide
import Derived.Laws.BitsLemmas
import Derived.Lib.Mul64
set_option linter.all false
set_option maxRecDepth 1000000
set_option maxHeartbeats 12800000
namespace Go.Proofs.YtoncapkmaeghfaaGreat
open Go.RowKit
theorem lz_any (y s:Nat) (hy:y<18446744073709551616) (hs:Lib.bitLen y+s=64) (w:World) :
  Calls Tryz.prog 140 #[.int .u64 y] w fun e w'=>e= .returned (.int .i64 s)∧w=w':=
 (Tryz.bits_LeadingZeros64 _ _ (by omega) (by omega)).mono fun e w' ⟨he,hw⟩=>⟨by rw[he,Int.toNat_natCast,show (64-(Lib.bitLen y:Int))=(s:Int) from by omega],hw.symm⟩
structure Bd (Y a b u d1 d0 v T T2:Nat):Prop where
 hb:b<4294967296
 ha:a<4294967296
 ha':2147483648≤a
 hu:u<Y
 hv:v<Y
 hd1:d1<4294967296
 hd0:d0<4294967296
theorem dv_end {hi lo y s Y a b u d1 d0 L T T2 v v2:Nat} (D:Dv hi lo y s Y a b u d1 d0 L) (hT:T=(u*4294967296+d1)/Y) (hv:v=(u*4294967296+d1)%Y) (hT2:T2=(v*4294967296+d0)/Y) (hv2:v2=(v*4294967296+d0)%Y) :
  Ending.returned (.tuple #[.int .u64 ((T:Int)*4294967296+(T2:Int)), .int .u64 ((v2:Int)/2^s)]) =
  Ending.returned (.tuple #[.int .u64 (((hi*18446744073709551616+lo)/y:Nat):Int), .int .u64 (((hi*18446744073709551616+lo)%y:Nat):Int)]):=by
 have hY0:0<Y:=Nat.lt_of_le_of_lt (Nat.zero_le _) D.hu
 obtain ⟨k1,k2⟩:=Kn.two (u:=u) (a:=d1) (b:=d0) hY0
 have hp:0<2^s:=Nat.pow_pos (by omega)
 obtain ⟨k3,k4⟩:=Kn.shifted (P:=hi*18446744073709551616+lo) (y:=y) hp
 rw[D.hN,←D.hYs,k1] at k3
 rw[D.hN,←D.hYs,k2] at k4
 rw[←k3,←k4,←hT,←hv,←hT2,←hv2]
 have e:(((v2/2^s:Nat):Int))=(v2:Int)/2^s:=by rw[Int.natCast_ediv,Int.natCast_pow];rfl
 rw[e,Int.natCast_add,Int.natCast_mul]
 rfl
theorem div64_big (hi lo y s:Nat) (h0:0<hi) (hy:hi<y) (hy64:y<18446744073709551616) (hlo:lo<18446744073709551616) (hs:Lib.bitLen y+s=64) (hs63:s≤63) (w:World) :
  Calls Tryz.prog 139 #[.int .u64 hi, .int .u64 lo, .int .u64 y] w fun e w'=>e= .returned (.tuple #[.int .u64 (((hi*18446744073709551616+lo)/y:Nat):Int), .int .u64 (((hi*18446744073709551616+lo)%y:Nat):Int)])∧w=w':=by
 obtain ⟨Y,a,b,u,d1,d0,L,D⟩:=dv_mk hi lo y s hy hy64 hlo hs hs63
 have HD:=Lib.hid D
 obtain ⟨e1,e2,e3,e4,e5,e6,e7,hY,hb,ha,ha',hu,hd1,hd0, -, -⟩:=D
 have hY64:Y<18446744073709551616:=by omega
 obtain ⟨T,Q,M,R,G⟩:=dg_mk hY hb ha ha' hu hd1
 have HG:=Lib.hid G
 have e11:=dg_rem hY64 (by omega) HG.out.hTd
 have v_lt:(u*4294967296+d1)%Y<Y:=Nat.mod_lt _ (by omega)
 obtain ⟨v,hv⟩:∃v,v=(u*4294967296+d1)%Y:=⟨_,rfl⟩
 rw[←hv] at e11 v_lt
 obtain ⟨T2,Q2,M2,R2,G2⟩:=dg_mk hY hb ha ha' v_lt hd0
 have HG2:=Lib.hid G2
 have e12:=dg_rem hY64 (by omega) HG2.out.hTd
 obtain ⟨v2,hv2⟩:∃v2,v2=(v*4294967296+d0)%Y:=⟨_,rfl⟩
 rw[←hv2] at e12
 have HF:=Lib.hid (dv_end HD.out HG.out.hTd hv HG2.out.hTd hv2)
 have BD:Hid (Bd Y a b u d1 d0 v T T2):=Lib.hid ⟨hb,ha,ha',hu,v_lt,hd1,hd0⟩
 obtain ⟨e8,e9,e10,hMu, -, -,hQ,hR, -,hT32⟩:=G
 obtain ⟨e8',e9',e10',hMu', -, -,hQ',hR', -,hT32'⟩:=G2
 have i1:(T:Int)<4294967296:=by omega
 have i2:(T2:Int)<4294967296:=by omega
 have i3:(M:Int)≤(u:Int):=by omega
 have i4:(M2:Int)≤(v:Int):=by omega
 have i5:(d1:Int)<4294967296:=by omega
 have i6:(d0:Int)<4294967296:=by omega
 have i7:(1:Int)≤(a:Int):=by omega
 have i8:(a:Int)<4294967296:=by omega
 have i9:¬(y:Int)≤(hi:Int):=by omega
 have i10:(Q:Int)<8589934592:=by omega
 have i11:(Q2:Int)<8589934592:=by omega
 have t1:((y:Int)==0)=false:=by simp;omega
 have t2:((hi:Int)==0)=false:=by simp;omega
 have LZ:=lz_any y s hy64 hs
 have j1:(u:Int)<18446744073709551616:=by omega
 have j2:(v:Int)<18446744073709551616:=by omega
 have HY:=Lib.hid hY
 clear hY hs hv hv2 hb ha ha' hu hd1 hd0 v_lt hMu hQ hR hT32 hMu' hQ' hR' hT32' hY64 h0 hy hy64 hlo
 go_enter Tryz.func139,Tryz.ntmps139
 go_wp2_with fail
 refine (LZ _).mono ?_;rintro e w' ⟨rfl,rfl⟩
 clear LZ
 go_wp2
 go_loop [15,16] (fun t r'=>∃q r:Nat,t= .int .u64 q∧r'= .int .u64 r∧Hid (u=q*a+r)∧T≤q∧q<8589934592∧r<4294967296) (fun t _=>(intOf t).toNat)
 case atStart=>exact ⟨Q,R,rfl,rfl,HG.out.hq,HG.out.hT,HG.out.hQ,by have:=HG.out.hR;have:=BD.out.ha;omega⟩
 case round=>
  clear e8 e9 e10
  obtain ⟨q,r,rfl,rfl,hq,hTq,hq33,hr⟩:=hrel
  have hq0:(0:Int)≤(q:Int):=by omega
  have hr':(r:Int)<4294967296:=by omega
  have hq2:(q:Int)<8589934592:=by omega
  have K:=Lib.hid (And.intro hTq (And.intro hq33 hr))
  clear hTq hq33 hr
  by_cases hq32:(4294967296:Int)≤(q:Int)
  ·
   obtain ⟨g1,g2,g3⟩:=Kn.dec HY.out BD.out.hu BD.out.hd1 hq.out (by rw[←HG.out.hTd];exact K.out.1) (Or.inl (by omega))
   rw[←HG.out.hTd] at g2
   have G3:=Lib.hid g3;have G2:=Lib.hid g2;clear g3 g2
   by_cases hra:(4294967296:Int)≤(r:Int)+(a:Int)
   ·
    have eT:(q:Int)-1=(T:Int):=by
     have:=Kn.exit2 HY.out (by have:=BD.out.ha';omega) BD.out.hb BD.out.hu G3.out (by rw[←HG.out.hTd];exact G2.out) (by omega)
     rw[←HG.out.hTd] at this;omega
    go_wp2
    go_loop [18,16] (fun t r'=>∃q r:Nat,t= .int .u64 q∧r'= .int .u64 r∧Hid (v=q*a+r)∧T2≤q∧q<8589934592∧r<4294967296) (fun t _=>(intOf t).toNat)
    case atStart=>exact ⟨Q2,R2,rfl,rfl,HG2.out.hq,HG2.out.hT,HG2.out.hQ,by have:=HG2.out.hR;have:=BD.out.ha;omega⟩
    case round=>
     obtain ⟨q,r,rfl,rfl,hq,hTq,hq33,hr⟩:=hrel
     have hq0:(0:Int)≤(q:Int):=by omega
     have hr':(r:Int)<4294967296:=by omega
     have hq2:(q:Int)<8589934592:=by omega
     have K:=Lib.hid (And.intro hTq (And.intro hq33 hr))
     clear hTq hq33 hr
     by_cases hq32:(4294967296:Int)≤(q:Int)
     ·
      obtain ⟨g1,g2,g3⟩:=Kn.dec HY.out BD.out.hv BD.out.hd0 hq.out (by rw[←HG2.out.hTd];exact K.out.1) (Or.inl (by omega))
      rw[←HG2.out.hTd] at g2
      have G3:=Lib.hid g3;have G2:=Lib.hid g2;clear g3 g2
      by_cases hra:(4294967296:Int)≤(r:Int)+(a:Int)
      ·
       have eT:(q:Int)-1=(T2:Int):=by
        have:=Kn.exit2 HY.out (by have:=BD.out.ha';omega) BD.out.hb BD.out.hv G3.out (by rw[←HG2.out.hTd];exact G2.out) (by omega)
        rw[←HG2.out.hTd] at this;omega
       go_wp2
       go_ret2
       exact ⟨HF.out,rfl⟩
      ·
       go_wp2
       go_round
       case rel=>exact ⟨q-1,r+a,by go_num,by go_num,G3.out,G2.out,by have:=K.out;omega,by omega⟩
       case measure=>simp[intOf];omega
     ·
      have c:(q:Int)*(b:Int)=((q*b:Nat):Int):=(Int.natCast_mul _ _).symm
      have eX:IntKind.u64.wrap ((q:Int)*(b:Int))=((q*b:Nat):Int):=by
       have h1:q*b≤4294967295*4294967295:=Nat.mul_le_mul (by omega) (by have:=BD.out.hb;omega)
       rw[c,dv_wrap,Nat.mod_eq_of_lt (by omega)]
      obtain ⟨X,hX⟩:∃X,X=q*b:=⟨_,rfl⟩
      rw[←hX] at eX
      have HX:=Lib.hid hX;clear hX c
      by_cases ht:4294967296*(r:Int)+(d0:Int)<(X:Int)
      ·
       obtain ⟨g1,g2,g3⟩:=Kn.dec HY.out BD.out.hv BD.out.hd0 hq.out (by rw[←HG2.out.hTd];exact K.out.1) (Or.inr (by rw[←HX.out];omega))
       rw[←HG2.out.hTd] at g2
       have G3:=Lib.hid g3;have G2:=Lib.hid g2;clear g3 g2
       by_cases hra:(4294967296:Int)≤(r:Int)+(a:Int)
       ·
        have eT:(q:Int)-1=(T2:Int):=by
         have:=Kn.exit2 HY.out (by have:=BD.out.ha';omega) BD.out.hb BD.out.hv G3.out (by rw[←HG2.out.hTd];exact G2.out) (by omega)
         rw[←HG2.out.hTd] at this;omega
        go_wp2
        go_ret2
        exact ⟨HF.out,rfl⟩
       ·
        go_wp2
        go_round
        case rel=>exact ⟨q-1,r+a,by go_num,by go_num,G3.out,G2.out,by have:=K.out;omega,by omega⟩
        case measure=>simp[intOf];omega
      ·
       obtain rfl:q=T2:=by
        have:=Kn.exit1 HY.out (by have:=BD.out.ha';omega) hq.out (by rw[←HG2.out.hTd];exact K.out.1) (by rw[←HX.out];omega)
        rw[←HG2.out.hTd] at this;exact this
       go_wp2
       go_ret2
       exact ⟨HF.out,rfl⟩
   ·
    go_wp2
    go_round
    case rel=>exact ⟨q-1,r+a,by go_num,by go_num,G3.out,G2.out,by have:=K.out;omega,by omega⟩
    case measure=>simp[intOf];omega
  ·
   have c:(q:Int)*(b:Int)=((q*b:Nat):Int):=(Int.natCast_mul _ _).symm
   have eX:IntKind.u64.wrap ((q:Int)*(b:Int))=((q*b:Nat):Int):=by
    have h1:q*b≤4294967295*4294967295:=Nat.mul_le_mul (by omega) (by have:=BD.out.hb;omega)
    rw[c,dv_wrap,Nat.mod_eq_of_lt (by omega)]
   obtain ⟨X,hX⟩:∃X,X=q*b:=⟨_,rfl⟩
   rw[←hX] at eX
   have HX:=Lib.hid hX;clear hX c
   by_cases ht:4294967296*(r:Int)+(d1:Int)<(X:Int)
   ·
    obtain ⟨g1,g2,g3⟩:=Kn.dec HY.out BD.out.hu BD.out.hd1 hq.out (by rw[←HG.out.hTd];exact K.out.1) (Or.inr (by rw[←HX.out];omega))
    rw[←HG.out.hTd] at g2
    have G3:=Lib.hid g3;have G2:=Lib.hid g2;clear g3 g2
    by_cases hra:(4294967296:Int)≤(r:Int)+(a:Int)
    ·
     have eT:(q:Int)-1=(T:Int):=by
      have:=Kn.exit2 HY.out (by have:=BD.out.ha';omega) BD.out.hb BD.out.hu G3.out (by rw[←HG.out.hTd];exact G2.out) (by omega)
      rw[←HG.out.hTd] at this;omega
     go_wp2
     go_loop [18,16] (fun t r'=>∃q r:Nat,t= .int .u64 q∧r'= .int .u64 r∧Hid (v=q*a+r)∧T2≤q∧q<8589934592∧r<4294967296) (fun t _=>(intOf t).toNat)
     case atStart=>exact ⟨Q2,R2,rfl,rfl,HG2.out.hq,HG2.out.hT,HG2.out.hQ,by have:=HG2.out.hR;have:=BD.out.ha;omega⟩
     case round=>
      obtain ⟨q,r,rfl,rfl,hq,hTq,hq33,hr⟩:=hrel
      have hq0:(0:Int)≤(q:Int):=by omega
      have hr':(r:Int)<4294967296:=by omega
      have hq2:(q:Int)<8589934592:=by omega
      have K:=Lib.hid (And.intro hTq (And.intro hq33 hr))
      clear hTq hq33 hr
      by_cases hq32:(4294967296:Int)≤(q:Int)
      ·
       obtain ⟨g1,g2,g3⟩:=Kn.dec HY.out BD.out.hv BD.out.hd0 hq.out (by rw[←HG2.out.hTd];exact K.out.1) (Or.inl (by omega))
       rw[←HG2.out.hTd] at g2
       have G3:=Lib.hid g3;have G2:=Lib.hid g2;clear g3 g2
       by_cases hra:(4294967296:Int)≤(r:Int)+(a:Int)
       ·
        have eT:(q:Int)-1=(T2:Int):=by
         have:=Kn.exit2 HY.out (by have:=BD.out.ha';omega) BD.out.hb BD.out.hv G3.out (by rw[←HG2.out.hTd];exact G2.out) (by omega)
         rw[←HG2.out.hTd] at this;omega
        go_wp2
        go_ret2
        exact ⟨HF.out,rfl⟩
       ·
        go_wp2
        go_round
        case rel=>exact ⟨q-1,r+a,by go_num,by go_num,G3.out,G2.out,by have:=K.out;omega,by omega⟩
        case measure=>simp[intOf];omega
      ·
       have c:(q:Int)*(b:Int)=((q*b:Nat):Int):=(Int.natCast_mul _ _).symm
       have eX:IntKind.u64.wrap ((q:Int)*(b:Int))=((q*b:Nat):Int):=by
        have h1:q*b≤4294967295*4294967295:=Nat.mul_le_mul (by omega) (by have:=BD.out.hb;omega)
        rw[c,dv_wrap,Nat.mod_eq_of_lt (by omega)]
       obtain ⟨X,hX⟩:∃X,X=q*b:=⟨_,rfl⟩
       rw[←hX] at eX
       have HX:=Lib.hid hX;clear hX c
       by_cases ht:4294967296*(r:Int)+(d0:Int)<(X:Int)
       ·
        obtain ⟨g1,g2,g3⟩:=Kn.dec HY.out BD.out.hv BD.out.hd0 hq.out (by rw[←HG2.out.hTd];exact K.out.1) (Or.inr (by rw[←HX.out];omega))
        rw[←HG2.out.hTd] at g2
        have G3:=Lib.hid g3;have G2:=Lib.hid g2;clear g3 g2
        by_cases hra:(4294967296:Int)≤(r:Int)+(a:Int)
        ·
         have eT:(q:Int)-1=(T2:Int):=by
          have:=Kn.exit2 HY.out (by have:=BD.out.ha';omega) BD.out.hb BD.out.hv G3.out (by rw[←HG2.out.hTd];exact G2.out) (by omega)
          rw[←HG2.out.hTd] at this;omega
         go_wp2
         go_ret2
         exact ⟨HF.out,rfl⟩
        ·
         go_wp2
         go_round
         case rel=>exact ⟨q-1,r+a,by go_num,by go_num,G3.out,G2.out,by have:=K.out;omega,by omega⟩
         case measure=>simp[intOf];omega
       ·
        obtain rfl:q=T2:=by
         have:=Kn.exit1 HY.out (by have:=BD.out.ha';omega) hq.out (by rw[←HG2.out.hTd];exact K.out.1) (by rw[←HX.out];omega)
         rw[←HG2.out.hTd] at this;exact this
        go_wp2
        go_ret2
        exact ⟨HF.out,rfl⟩
    ·
     go_wp2
     go_round
     case rel=>exact ⟨q-1,r+a,by go_num,by go_num,G3.out,G2.out,by have:=K.out;omega,by omega⟩
     case measure=>simp[intOf];omega
   ·
    obtain rfl:q=T:=by
     have:=Kn.exit1 HY.out (by have:=BD.out.ha';omega) hq.out (by rw[←HG.out.hTd];exact K.out.1) (by rw[←HX.out];omega)
     rw[←HG.out.hTd] at this;exact this
    go_wp2
    go_loop [18,16] (fun t r'=>∃q r:Nat,t= .int .u64 q∧r'= .int .u64 r∧Hid (v=q*a+r)∧T2≤q∧q<8589934592∧r<4294967296) (fun t _=>(intOf t).toNat)
    case atStart=>exact ⟨Q2,R2,rfl,rfl,HG2.out.hq,HG2.out.hT,HG2.out.hQ,by have:=HG2.out.hR;have:=BD.out.ha;omega⟩
    case round=>
     obtain ⟨q,r,rfl,rfl,hq,hTq,hq33,hr⟩:=hrel
     have hq0:(0:Int)≤(q:Int):=by omega
     have hr':(r:Int)<4294967296:=by omega
     have hq2:(q:Int)<8589934592:=by omega
     have K:=Lib.hid (And.intro hTq (And.intro hq33 hr))
     clear hTq hq33 hr
     by_cases hq32:(4294967296:Int)≤(q:Int)
     ·
      obtain ⟨g1,g2,g3⟩:=Kn.dec HY.out BD.out.hv BD.out.hd0 hq.out (by rw[←HG2.out.hTd];exact K.out.1) (Or.inl (by omega))
      rw[←HG2.out.hTd] at g2
      have G3:=Lib.hid g3;have G2:=Lib.hid g2;clear g3 g2
      by_cases hra:(4294967296:Int)≤(r:Int)+(a:Int)
      ·
       have eT:(q:Int)-1=(T2:Int):=by
        have:=Kn.exit2 HY.out (by have:=BD.out.ha';omega) BD.out.hb BD.out.hv G3.out (by rw[←HG2.out.hTd];exact G2.out) (by omega)
        rw[←HG2.out.hTd] at this;omega
       go_wp2
       go_ret2
       exact ⟨HF.out,rfl⟩
      ·
       go_wp2
       go_round
       case rel=>exact ⟨q-1,r+a,by go_num,by go_num,G3.out,G2.out,by have:=K.out;omega,by omega⟩
       case measure=>simp[intOf];omega
     ·
      have c:(q:Int)*(b:Int)=((q*b:Nat):Int):=(Int.natCast_mul _ _).symm
      have eX:IntKind.u64.wrap ((q:Int)*(b:Int))=((q*b:Nat):Int):=by
       have h1:q*b≤4294967295*4294967295:=Nat.mul_le_mul (by omega) (by have:=BD.out.hb;omega)
       rw[c,dv_wrap,Nat.mod_eq_of_lt (by omega)]
      obtain ⟨X,hX⟩:∃X,X=q*b:=⟨_,rfl⟩
      rw[←hX] at eX
      have HX:=Lib.hid hX;clear hX c
      by_cases ht:4294967296*(r:Int)+(d0:Int)<(X:Int)
      ·
       obtain ⟨g1,g2,g3⟩:=Kn.dec HY.out BD.out.hv BD.out.hd0 hq.out (by rw[←HG2.out.hTd];exact K.out.1) (Or.inr (by rw[←HX.out];omega))
       rw[←HG2.out.hTd] at g2
       have G3:=Lib.hid g3;have G2:=Lib.hid g2;clear g3 g2
       by_cases hra:(4294967296:Int)≤(r:Int)+(a:Int)
       ·
        have eT:(q:Int)-1=(T2:Int):=by
         have:=Kn.exit2 HY.out (by have:=BD.out.ha';omega) BD.out.hb BD.out.hv G3.out (by rw[←HG2.out.hTd];exact G2.out) (by omega)
         rw[←HG2.out.hTd] at this;omega
        go_wp2
        go_ret2
        exact ⟨HF.out,rfl⟩
       ·
        go_wp2
        go_round
        case rel=>exact ⟨q-1,r+a,by go_num,by go_num,G3.out,G2.out,by have:=K.out;omega,by omega⟩
        case measure=>simp[intOf];omega
      ·
       obtain rfl:q=T2:=by
        have:=Kn.exit1 HY.out (by have:=BD.out.ha';omega) hq.out (by rw[←HG2.out.hTd];exact K.out.1) (by rw[←HX.out];omega)
        rw[←HG2.out.hTd] at this;exact this
       go_wp2
       go_ret2
       exact ⟨HF.out,rfl⟩
theorem div64_small (lo y:Nat) (h0:0<y) (hy64:y<18446744073709551616) (hlo:lo<18446744073709551616) (w:World) :
  Calls Tryz.prog 139 #[.int .u64 0, .int .u64 lo, .int .u64 y] w fun e w'=>e= .returned (.tuple #[.int .u64 ((lo/y:Nat):Int), .int .u64 ((lo%y:Nat):Int)])∧∃n,w'=w.drewN n:=by
 have t1:((y:Int)==0)=false:=by simp;omega
 have i1:(1:Int)≤(y:Int):=by omega
 have i2:(y:Int)≤18446744073709551615:=by omega
 have i3:(lo:Int)≤18446744073709551615:=by omega
 have i4:¬(y:Int)≤0:=by omega
 have c1:((lo/y:Nat):Int)=(lo:Int)/(y:Int):=Int.natCast_ediv lo y
 have c2:((lo%y:Nat):Int)=(lo:Int)%(y:Int):=Int.natCast_emod lo y
 have eW:IntKind.u64.wrap ((lo:Int)/(y:Int))=(lo:Int)/(y:Int):=by
  have:=Nat.div_le_self lo y
  rw[←c1,dv_wrap,Nat.mod_eq_of_lt (by omega)]
 rw[c1,c2]
 clear c1 c2 h0 hy64 hlo
 go_enter Tryz.func139,Tryz.ntmps139
 go_wp2
 go_quiet (fail)
 go_wp2
 go_ret2
 exact ⟨rfl,_,rfl⟩
theorem Gr.drewN {a w:World} (h:Gr a w) (n:Nat):Gr a (w.drewN n):=⟨h.os,h.tape,h.output,h.size,h.block⟩
theorem div64_any (hi lo y:Nat) (hy:hi<y) (hy64:y<18446744073709551616) (hlo:lo<18446744073709551616) (w:World) :
  Calls Tryz.prog 139 #[.int .u64 hi, .int .u64 lo, .int .u64 y] w fun e w'=>e= .returned (.tuple #[.int .u64 (((hi*18446744073709551616+lo)/y:Nat):Int), .int .u64 (((hi*18446744073709551616+lo)%y:Nat):Int)])∧Gr w w':=by
 rcases Nat.eq_zero_or_pos hi with h0|h0
 ·
  subst h0
  refine (div64_small lo y hy hy64 hlo w).mono fun e w' ⟨he,n,hw⟩=>?_
  subst hw
  rw[Nat.zero_mul,Nat.zero_add]
  exact ⟨he,(Gr.refl w).drewN n⟩
 ·
  obtain ⟨c1,c2,c3,c4⟩:=bitLen_bd 64 y (by simpa using hy64) (by omega) (by omega)
  obtain ⟨s,hs⟩:∃s,Lib.bitLen y+s=64:=⟨64-Lib.bitLen y,by omega⟩
  refine (div64_big hi lo y s h0 hy hy64 hlo hs (by omega) w).mono fun e w' ⟨he,hw⟩=>?_
  subst hw
  exact ⟨he,Gr.refl w⟩
theorem wrap_i64 (n:Int):IntKind.i64.wrap n=(n+9223372036854775808)%18446744073709551616-9223372036854775808:=IntKind.wrap_i64 n
theorem size_any (n:Int) (h1: -9223372036854775808≤n) (h2:n≤9223372036854775807) (w:World) :
  Calls Tryz.prog 137 #[.int .i64 n] w fun e w'=>e= .returned (.int .u64 (n.natAbs:Int))∧w=w':=by
 by_cases h0:n<0
 ·
  have e1:IntKind.u64.wrap (-IntKind.u64.wrap n)=(n.natAbs:Int):=by simp only[IntKind.wrap_u64];omega
  have E1:=Lib.hid e1;clear e1
  go_enter Tryz.func137,Tryz.ntmps137
  go_wp2
  go_ret
  exact ⟨by first|rfl|(rw[E1.out];rfl),rfl⟩
 ·
  have e1:(n.natAbs:Int)=n:=by omega
  have E1:=Lib.hid e1;clear e1
  have h3:0≤n:=by omega
  go_enter Tryz.func137,Tryz.ntmps137
  go_wp2
  go_ret
  exact ⟨by first|rfl|(rw[E1.out];rfl),rfl⟩
theorem rsize_any (n:Int) (h1: -9223372036854775808≤n) (h2:n≤9223372036854775807) (w:World) :
  Calls Tryz.prog 136 #[.int .i64 n] w fun e w'=>e= .returned (.int .u64 (n.natAbs:Int))∧w=w':=by
 by_cases h0:n<0
 ·
  have e1: -(n+1)+1=(n.natAbs:Int):=by omega
  have E1:=Lib.hid e1;clear e1
  go_enter Tryz.func136,Tryz.ntmps136
  go_wp2
  go_ret
  exact ⟨by first|rfl|(rw[←E1.out];rfl),rfl⟩
 ·
  have e1:(n.natAbs:Int)=n:=by omega
  have E1:=Lib.hid e1;clear e1
  have h3:0≤n:=by omega
  go_enter Tryz.func136,Tryz.ntmps136
  go_wp2
  go_ret
  exact ⟨by first|rfl|(rw[E1.out];rfl),rfl⟩
theorem mul64_any (x y:Nat) (hx:x<18446744073709551616) (hy:y<18446744073709551616) (w:World) :
  Calls Tryz.prog 138 #[.int .u64 x, .int .u64 y] w fun e w'=>e= .returned (.tuple #[.int .u64 ((x*y/18446744073709551616:Nat):Int), .int .u64 ((x*y%18446744073709551616:Nat):Int)])∧w=w':=
 (Tryz.bits_Mul64 x y hx hy w).mono fun _ _ ⟨he,hw⟩=>⟨he,hw.symm⟩
def rq (P d:Nat):Nat:=P/d+(if d-P%d≤P%d then 1 else 0)
def mdOk (a b c:Int):Bool:= !(c==0)&&decide (rq (a.natAbs*b.natAbs) c.natAbs≤4611686018427387904)
def mdNeg (a b c:Int):Bool:=(decide (a<0) != decide (b<0)) != decide (c<0)
def mdN (a b c:Int):Int:=
 bif mdOk a b c then (bif mdNeg a b c then -(rq (a.natAbs*b.natAbs) c.natAbs:Int) else (rq (a.natAbs*b.natAbs) c.natAbs:Int)) else 0
theorem rq_up {P d:Nat} (h:d-P%d≤P%d):rq P d=P/d+1:=by unfold rq;rw[if_pos h]
theorem rq_dn {P d:Nat} (h:¬d-P%d≤P%d):rq P d=P/d:=by unfold rq;rw[if_neg h,Nat.add_zero]
theorem rq_ge (P d:Nat):P/d≤rq P d:=by unfold rq;split<;>omega
theorem mdOk_no {a b c:Int} (h:4611686018427387904<rq (a.natAbs*b.natAbs) c.natAbs):mdOk a b c=false:=by
 have:¬rq (a.natAbs*b.natAbs) c.natAbs≤4611686018427387904:=by omega
 simp[mdOk,this]
theorem mdOk_yes {a b c:Int} (hc:c≠0) (h:rq (a.natAbs*b.natAbs) c.natAbs≤4611686018427387904):mdOk a b c=true:=by
 simp[mdOk,h,hc]
def mdE (a b c:Int):Ending:= .returned (.tuple #[.int .i64 (mdN a b c), .bool (mdOk a b c)])
theorem md_no {a b c:Int} (h:mdOk a b c=false):Ending.returned (.tuple #[.int .i64 0, .bool false])=mdE a b c:=by
 simp[mdE,mdN,h]
theorem md_neg {a b c q:Int} (h:mdOk a b c=true) (hn:mdNeg a b c=true) (hq:(rq (a.natAbs*b.natAbs) c.natAbs:Int)=q):Ending.returned (.tuple #[.int .i64 (-q), .bool true])=mdE a b c:=by
 simp[mdE,mdN,h,hn,hq]
theorem md_pos {a b c q:Int} (h:mdOk a b c=true) (hn:mdNeg a b c=false) (hq:(rq (a.natAbs*b.natAbs) c.natAbs:Int)=q):Ending.returned (.tuple #[.int .i64 q, .bool true])=mdE a b c:=by
 simp[mdE,mdN,h,hn,hq]
theorem muldiv_any (a b c:Int) (ha1: -9223372036854775808≤a) (ha2:a≤9223372036854775807) (hb1: -9223372036854775808≤b) (hb2:b≤9223372036854775807) (hc1: -9223372036854775808≤c) (hc2:c≤9223372036854775807) (w:World) :
  Calls Tryz.prog 134 #[.int .i64 a, .int .i64 b, .int .i64 c] w fun e w'=>e=mdE a b c∧Gr w w':=by
 by_cases hc0:c=0
 ·
  subst hc0
  have E:=Lib.hid (md_no (a:=a) (b:=b) (c:=0) (by simp[mdOk]))
  go_enter Tryz.func134,Tryz.ntmps134
  go_wp2
  go_ret2
  exact ⟨E.out,Gr.refl _⟩
 have hP1:a.natAbs*b.natAbs≤9223372036854775808*9223372036854775808:=Nat.mul_le_mul (by omega) (by omega)
 have t0:(c==0)=false:=by simp[hc0]
 have sa':=size_any a ha1 ha2
 have sb':=size_any b hb1 hb2
 have sc':=size_any c hc1 hc2
 have sm':=mul64_any a.natAbs b.natAbs (by omega) (by omega)
 obtain ⟨A,hA⟩:∃A,A=a.natAbs:=⟨_,rfl⟩
 obtain ⟨B,hB⟩:∃B,B=b.natAbs:=⟨_,rfl⟩
 obtain ⟨d,hd⟩:∃d,d=c.natAbs:=⟨_,rfl⟩
 obtain ⟨H,hH⟩:∃H,H=A*B/18446744073709551616:=⟨_,rfl⟩
 obtain ⟨L,hL⟩:∃L,L=A*B%18446744073709551616:=⟨_,rfl⟩
 obtain ⟨q,hq⟩:∃q,q=A*B/d:=⟨_,rfl⟩
 obtain ⟨r,hr⟩:∃r,r=A*B%d:=⟨_,rfl⟩
 rw[←hA] at sa' sm' hP1;rw[←hB] at sb' sm' hP1;rw[←hd] at sc';rw[←hH,←hL] at sm'
 have hPeq:H*18446744073709551616+L=A*B:=by omega
 have hd0:1≤d:=by omega
 have hd63:d≤9223372036854775808:=by omega
 have hr1:r<d:=by rw[hr];exact Nat.mod_lt _ hd0
 have hL1:L<18446744073709551616:=by omega
 have sa:=Lib.hid sa';have sb:=Lib.hid sb';have sc:=Lib.hid sc';have sm:=Lib.hid sm'
 have i1:(H:Int)≤18446744073709551615:=by omega
 have i2:(L:Int)≤18446744073709551615:=by omega
 have i3:(d:Int)≤9223372036854775808:=by omega
 have i4:(1:Int)≤(d:Int):=by omega
 have i5:(r:Int)<(d:Int):=by omega
 by_cases hh:(d:Int)≤(H:Int)
 ·
  have hqq:18446744073709551616≤A*B/d:=by rw[Nat.le_div_iff_mul_le hd0];have:d*18446744073709551616≤H*18446744073709551616:=Nat.mul_le_mul_right _ (by omega);omega
  have E:=Lib.hid (md_no (a:=a) (b:=b) (c:=c) (mdOk_no (by have:=rq_ge (A*B) d;rw[←hA,←hB,←hd];omega)))
  clear hqq
  clear sa' sb' sc' sm' hP1 hc0 hA hB hd hH hL hq hr hPeq hd0 hd63 hr1 hL1
  go_enter Tryz.func134,Tryz.ntmps134
  go_wp2_with fail
  refine (sc.out _).mono ?_;rintro e w1 ⟨rfl,rfl⟩
  go_wp2_with fail
  refine (sa.out _).mono ?_;rintro e w1 ⟨rfl,rfl⟩
  go_wp2_with fail
  refine (sb.out _).mono ?_;rintro e w1 ⟨rfl,rfl⟩
  go_wp2_with fail
  refine (sm.out _).mono ?_;rintro e w1 ⟨rfl,rfl⟩
  go_wp2
  go_ret2
  exact ⟨E.out,gq⟩
 have hHd:H<d:=by omega
 have sd':=fun w=>div64_any H L d hHd (by omega) hL1 w
 rw[hPeq,←hq,←hr] at sd'
 have hq64:q<18446744073709551616:=by
  rw[hq,Nat.div_lt_iff_lt_mul hd0,←hPeq]
  have:(H+1)*18446744073709551616≤d*18446744073709551616:=Nat.mul_le_mul_right _ hHd
  omega
 have i6:(q:Int)≤18446744073709551615:=by omega
 have sd:=Lib.hid sd'
 clear sd'
 by_cases h1:(4611686018427387904:Int)<(q:Int)
 ·
  have E:=Lib.hid (md_no (a:=a) (b:=b) (c:=c) (mdOk_no (by have:=rq_ge (A*B) d;rw[←hA,←hB,←hd];omega)))
  clear sa' sb' sc' sm' hP1 hc0 hA hB hd hH hL hq hr hPeq hd0 hd63 hr1 hL1 hHd hq64
  go_enter Tryz.func134,Tryz.ntmps134
  go_wp2_with fail
  refine (sc.out _).mono ?_;rintro e w1 ⟨rfl,rfl⟩
  go_wp2_with fail
  refine (sa.out _).mono ?_;rintro e w1 ⟨rfl,rfl⟩
  go_wp2_with fail
  refine (sb.out _).mono ?_;rintro e w1 ⟨rfl,rfl⟩
  go_wp2_with fail
  refine (sm.out _).mono ?_;rintro e w1 ⟨rfl,rfl⟩
  go_wp2_with fail
  refine (sd.out _).mono ?_;rintro e w1 ⟨rfl,hg⟩
  go_wp2
  go_ret2
  exact ⟨E.out,gq⟩
 by_cases h2:(d:Int)-(r:Int)≤(r:Int)
 ·
  have hup:=rq_up (P:=A*B) (d:=d) (by omega)
  rw[←hq] at hup
  obtain ⟨q1,hq1⟩:∃q1,q1=q+1:=⟨_,rfl⟩
  have eQ:(q:Int)+1=(q1:Int):=by omega
  have j0:(q1:Int)≤18446744073709551615:=by omega
  by_cases h3:(4611686018427387904:Int)<(q1:Int)
  ·
   have E:=Lib.hid (md_no (a:=a) (b:=b) (c:=c) (mdOk_no (by rw[←hA,←hB,←hd];omega)))
   clear hup hq1
   clear sa' sb' sc' sm' hP1 hc0 hA hB hd hH hL hq hr hPeq hd0 hd63 hr1 hL1 hHd hq64
   go_enter Tryz.func134,Tryz.ntmps134
   go_wp2_with fail
   refine (sc.out _).mono ?_;rintro e w1 ⟨rfl,rfl⟩
   go_wp2_with fail
   refine (sa.out _).mono ?_;rintro e w1 ⟨rfl,rfl⟩
   go_wp2_with fail
   refine (sb.out _).mono ?_;rintro e w1 ⟨rfl,rfl⟩
   go_wp2_with fail
   refine (sm.out _).mono ?_;rintro e w1 ⟨rfl,rfl⟩
   go_wp2_with fail
   refine (sd.out _).mono ?_;rintro e w1 ⟨rfl,hg⟩
   go_wp2
   go_ret2
   exact ⟨E.out,gq⟩
  have hok:=mdOk_yes (a:=a) (b:=b) (c:=c) hc0 (by rw[←hA,←hB,←hd];omega)
  cases hn:(!((!(decide (a<0)==decide (b<0)))==decide (c<0)))
  ·
   have E:=Lib.hid (md_pos (a:=a) (b:=b) (c:=c) (q:=(q1:Int)) hok hn (by rw[←hA,←hB,←hd];omega))
   clear hup hok hq1
   clear sa' sb' sc' sm' hP1 hc0 hA hB hd hH hL hq hr hPeq hd0 hd63 hr1 hL1 hHd hq64
   go_enter Tryz.func134,Tryz.ntmps134
   go_wp2_with fail
   refine (sc.out _).mono ?_;rintro e w1 ⟨rfl,rfl⟩
   go_wp2_with fail
   refine (sa.out _).mono ?_;rintro e w1 ⟨rfl,rfl⟩
   go_wp2_with fail
   refine (sb.out _).mono ?_;rintro e w1 ⟨rfl,rfl⟩
   go_wp2_with fail
   refine (sm.out _).mono ?_;rintro e w1 ⟨rfl,rfl⟩
   go_wp2_with fail
   refine (sd.out _).mono ?_;rintro e w1 ⟨rfl,hg⟩
   go_wp2
   go_ret2
   exact ⟨E.out,gq⟩
  ·
   have E:=Lib.hid (md_neg (a:=a) (b:=b) (c:=c) (q:=(q1:Int)) hok hn (by rw[←hA,←hB,←hd];omega))
   clear hup hok hq1
   clear sa' sb' sc' sm' hP1 hc0 hA hB hd hH hL hq hr hPeq hd0 hd63 hr1 hL1 hHd hq64
   go_enter Tryz.func134,Tryz.ntmps134
   go_wp2_with fail
   refine (sc.out _).mono ?_;rintro e w1 ⟨rfl,rfl⟩
   go_wp2_with fail
   refine (sa.out _).mono ?_;rintro e w1 ⟨rfl,rfl⟩
   go_wp2_with fail
   refine (sb.out _).mono ?_;rintro e w1 ⟨rfl,rfl⟩
   go_wp2_with fail
   refine (sm.out _).mono ?_;rintro e w1 ⟨rfl,rfl⟩
   go_wp2_with fail
   refine (sd.out _).mono ?_;rintro e w1 ⟨rfl,hg⟩
   go_wp2
   go_ret2
   exact ⟨E.out,gq⟩
 ·
  have hup:=rq_dn (P:=A*B) (d:=d) (by omega)
  rw[←hq] at hup
  have hok:=mdOk_yes (a:=a) (b:=b) (c:=c) hc0 (by rw[←hA,←hB,←hd];omega)
  cases hn:(!((!(decide (a<0)==decide (b<0)))==decide (c<0)))
  ·
   have E:=Lib.hid (md_pos (a:=a) (b:=b) (c:=c) (q:=(q:Int)) hok hn (by rw[←hA,←hB,←hd];omega))
   clear hup hok
   clear sa' sb' sc' sm' hP1 hc0 hA hB hd hH hL hq hr hPeq hd0 hd63 hr1 hL1 hHd hq64
   go_enter Tryz.func134,Tryz.ntmps134
   go_wp2_with fail
   refine (sc.out _).mono ?_;rintro e w1 ⟨rfl,rfl⟩
   go_wp2_with fail
   refine (sa.out _).mono ?_;rintro e w1 ⟨rfl,rfl⟩
   go_wp2_with fail
   refine (sb.out _).mono ?_;rintro e w1 ⟨rfl,rfl⟩
   go_wp2_with fail
   refine (sm.out _).mono ?_;rintro e w1 ⟨rfl,rfl⟩
   go_wp2_with fail
   refine (sd.out _).mono ?_;rintro e w1 ⟨rfl,hg⟩
   go_wp2
   go_ret2
   exact ⟨E.out,gq⟩
  ·
   have E:=Lib.hid (md_neg (a:=a) (b:=b) (c:=c) (q:=(q:Int)) hok hn (by rw[←hA,←hB,←hd];omega))
   clear hup hok
   clear sa' sb' sc' sm' hP1 hc0 hA hB hd hH hL hq hr hPeq hd0 hd63 hr1 hL1 hHd hq64
   go_enter Tryz.func134,Tryz.ntmps134
   go_wp2_with fail
   refine (sc.out _).mono ?_;rintro e w1 ⟨rfl,rfl⟩
   go_wp2_with fail
   refine (sa.out _).mono ?_;rintro e w1 ⟨rfl,rfl⟩
   go_wp2_with fail
   refine (sb.out _).mono ?_;rintro e w1 ⟨rfl,rfl⟩
   go_wp2_with fail
   refine (sm.out _).mono ?_;rintro e w1 ⟨rfl,rfl⟩
   go_wp2_with fail
   refine (sd.out _).mono ?_;rintro e w1 ⟨rfl,hg⟩
   go_wp2
   go_ret2
   exact ⟨E.out,gq⟩
theorem step_mod (T d b:Nat) (hd:0<d) (hb:b<2) :
  (2*T+b)%d=(if d≤2*(T%d)+b then 2*(T%d)+b-d else 2*(T%d)+b)∧
  (2*T+b)/d=2*(T/d)+(if d≤2*(T%d)+b then 1 else 0):=by
 have h1:=Nat.mod_lt T hd
 have h2:=Nat.div_add_mod T d
 have e:2*T+b=(2*(T%d)+b)+d*(2*(T/d)):=by
  rw[←Nat.mul_assoc,Nat.mul_comm d 2,Nat.mul_assoc];omega
 rw[e,Nat.add_mul_mod_self_left,Nat.add_mul_div_left _ _ hd]
 by_cases h:d≤2*(T%d)+b
 ·
  rw[if_pos h,if_pos h,Nat.mod_eq_sub_mod h,Nat.mod_eq_of_lt (by omega),Nat.div_eq_sub_div hd h,Nat.div_eq_of_lt (by omega)]
  exact ⟨rfl,by omega⟩
 ·
  rw[if_neg h,if_neg h,Nat.mod_eq_of_lt (by omega),Nat.div_eq_of_lt (by omega)]
  exact ⟨rfl,by omega⟩
structure Ld (P d k q r:Nat) (over:Bool):Prop where
 hq:q=P/2^k/d%18446744073709551616
 hr:r=P/2^k%d
 ho:over=decide (9223372036854775808≤P/2^k/d)
theorem Ld.start {P d:Nat} (h:P<2^128):Ld P d 128 0 0 false:=by
 have e:P/2^128=0:=Nat.div_eq_of_lt h
 exact {hq:=by rw[e];simp,hr:=by rw[e];simp,ho:=by rw[e];simp}
theorem pow_step (P k:Nat):P/2^k=2*(P/2^(k+1))+P/2^k%2:=by
 rw[Nat.pow_succ,←Nat.div_div_eq_div_mul];omega
theorem Ld.bound {P d k q r:Nat} {over:Bool} (h:Ld P d k q r over) (hd:0<d):r<d∧q<18446744073709551616:=by
 constructor
 ·
  rw[h.hr];exact Nat.mod_lt _ hd
 ·
  rw[h.hq];exact Nat.mod_lt _ (by omega)
theorem Ld.over {P d k q r:Nat} {o:Bool} (h:Ld P d (k+1) q r o) (hd:0<d):(o||decide (4611686018427387904≤q))=decide (9223372036854775808≤P/2^k/d):=by
 have hs:=pow_step P k
 have hb:P/2^k%2<2:=Nat.mod_lt _ (by omega)
 obtain ⟨_,s2⟩:=step_mod (P/2^(k+1)) d (P/2^k%2) hd hb
 rw[←hs] at s2
 have h1:=h.hq
 have h2:=h.ho
 have hc:(if d≤2*(P/2^(k+1)%d)+P/2^k%2 then 1 else 0:Nat)≤1:=by split<;>omega
 generalize (if d≤2*(P/2^(k+1)%d)+P/2^k%2 then 1 else 0:Nat)=c at *
 generalize P/2^(k+1)/d=Q at *
 generalize P/2^k/d=Q' at *
 rw[h2,Bool.eq_iff_iff]
 simp only[Bool.or_eq_true,decide_eq_true_eq]
 omega
theorem Ld.yes {P d k q r:Nat} {o:Bool} (h:Ld P d (k+1) q r o) (hd:0<d) (hx:d≤2*r+P/2^k%2) :
  Ld P d k (q*2%18446744073709551616+1) (2*r+P/2^k%2-d) (o||decide (4611686018427387904≤q)):=by
 have ho:=h.over hd
 have hs:=pow_step P k
 have hb:P/2^k%2<2:=Nat.mod_lt _ (by omega)
 obtain ⟨s1,s2⟩:=step_mod (P/2^(k+1)) d (P/2^k%2) hd hb
 have h1:=h.hq
 have h2:=h.hr
 rw[←hs,←h2,if_pos hx] at s1 s2
 refine {hq:=?_,hr:=s1.symm,ho:=ho}
 rw[s2,h1]
 generalize P/2^(k+1)/d=Q at *
 omega
theorem Ld.no {P d k q r:Nat} {o:Bool} (h:Ld P d (k+1) q r o) (hd:0<d) (hx:¬d≤2*r+P/2^k%2) :
  Ld P d k (q*2%18446744073709551616) (2*r+P/2^k%2) (o||decide (4611686018427387904≤q)):=by
 have ho:=h.over hd
 have hs:=pow_step P k
 have hb:P/2^k%2<2:=Nat.mod_lt _ (by omega)
 obtain ⟨s1,s2⟩:=step_mod (P/2^(k+1)) d (P/2^k%2) hd hb
 have h1:=h.hq
 have h2:=h.hr
 rw[←hs,←h2,if_neg hx] at s1 s2
 refine {hq:=?_,hr:=s1.symm,ho:=ho}
 rw[s2,h1]
 generalize P/2^(k+1)/d=Q at *
 omega
theorem bit_hi {H L j:Nat} (hL:L<18446744073709551616) (hj:64≤j):(H*18446744073709551616+L)/2^j%2=H/2^(j-64)%2:=by
 have e:2^j=18446744073709551616*2^(j-64):=by
  rw[show (18446744073709551616:Nat)=2^64 from by decide,←Nat.pow_add,show 64+(j-64)=j from by omega]
 rw[e,←Nat.div_div_eq_div_mul,show (H*18446744073709551616+L)/18446744073709551616=H from by omega]
theorem bit_lo {H L j:Nat} (hj:j<64):(H*18446744073709551616+L)/2^j%2=L/2^j%2:=by
 have e:H*18446744073709551616=2^j*(H*2^(63-j)*2):=by
  rw[show (18446744073709551616:Nat)=2^j*(2^(63-j)*2) from by rw[←Nat.pow_succ,←Nat.pow_add,show j+(63-j+1)=64 from by omega]]
  rw[Nat.mul_left_comm,Nat.mul_assoc]
 rw[e,Nat.mul_add_div (Nat.pow_pos (by omega))]
 omega
theorem and_one (X:Nat) (h:X<18446744073709551616):bits .and .u64 (X:Int) 1=((X%2:Nat):Int):=by
 have h1:=bits_and_u64_nat X 1 h (by omega)
 have e:X &&& 1=X%2:=Nat.and_one_is_mod X
 rw[e] at h1
 exact h1
theorem or_bit {x b:Nat} (h:2*x<18446744073709551616) (hb:b<2):bits .or .u64 ((2*x:Nat):Int) (b:Int)=((2*x+b:Nat):Int):=by
 rw[bits_or_u64_nat _ _ h (by omega)]
 have:=(Nat.two_pow_add_eq_or_of_lt (i:=1) (b:=b) (by omega) x).symm
 simp only[Nat.pow_one] at this
 rw[this]
theorem tm_lo (x y:Nat):(((x%4294967296)*(y/4294967296)+((x/4294967296)*(y%4294967296)+(x%4294967296)*(y%4294967296)/4294967296)%4294967296)*4294967296%18446744073709551616)+(x%4294967296)*(y%4294967296)%4294967296=x*y%18446744073709551616:=by
 have e:x*y=(x/4294967296)*(y/4294967296)*(4294967296*4294967296)+((x/4294967296)*(y%4294967296)+(x%4294967296)*(y/4294967296))*4294967296+(x%4294967296)*(y%4294967296):=by
  rw[←Lib.split_mul,Nat.div_add_mod' x 4294967296,Nat.div_add_mod' y 4294967296]
 rw[e]
 generalize (x/4294967296)*(y/4294967296)=a
 generalize (x/4294967296)*(y%4294967296)=b
 generalize (x%4294967296)*(y/4294967296)=c
 generalize (x%4294967296)*(y%4294967296)=d
 omega
theorem times_any (x y:Nat) (hx:x<18446744073709551616) (hy:y<18446744073709551616) (w:World) :
  Calls Tryz.prog 135 #[.int .u64 x, .int .u64 y] w fun e w'=>e= .returned (.tuple #[.int .u64 ((x*y/18446744073709551616:Nat):Int), .int .u64 ((x*y%18446744073709551616:Nat):Int)])∧w=w':=by
 obtain ⟨k1,k2,k3,k4⟩:=Lib.mul64_hi x y hx hy
 have k5:=tm_lo x y
 have x1:=dv_and x hx
 have y1:=dv_and y hy
 have x2:(x:Int)/4294967296=((x/4294967296:Nat):Int):=by omega
 have y2:(y:Int)/4294967296=((y/4294967296:Nat):Int):=by omega
 have m:∀a b:Nat,(a:Int)*(b:Int)=((a*b:Nat):Int):=fun a b=>(Int.natCast_mul a b).symm
 obtain ⟨al,hal⟩:∃a,a=x%4294967296:=⟨_,rfl⟩
 obtain ⟨ah,hah⟩:∃a,a=x/4294967296:=⟨_,rfl⟩
 obtain ⟨bl,hbl⟩:∃a,a=y%4294967296:=⟨_,rfl⟩
 obtain ⟨bh,hbh⟩:∃a,a=y/4294967296:=⟨_,rfl⟩
 have l1:al*bl≤4294967295*4294967295:=Nat.mul_le_mul (by omega) (by omega)
 have l2:ah*bl≤4294967295*4294967295:=Nat.mul_le_mul (by omega) (by omega)
 have l3:al*bh≤4294967295*4294967295:=Nat.mul_le_mul (by omega) (by omega)
 have l4:ah*bh≤4294967295*4294967295:=Nat.mul_le_mul (by omega) (by omega)
 simp only[←hal,←hah,←hbl,←hbh] at k1 k2 k3 k4 k5
 rw[←hal] at x1;rw[←hah] at x2;rw[←hbl] at y1;rw[←hbh] at y2
 obtain ⟨lo,hlo⟩:∃a,a=al*bl:=⟨_,rfl⟩
 obtain ⟨p,hp⟩:∃a,a=ah*bl:=⟨_,rfl⟩
 obtain ⟨q,hq⟩:∃a,a=al*bh:=⟨_,rfl⟩
 obtain ⟨r,hr⟩:∃a,a=ah*bh:=⟨_,rfl⟩
 simp only[←hlo,←hp,←hq,←hr] at k1 k2 k3 k4 k5 l1 l2 l3 l4
 have r1:IntKind.u64.wrap ((al:Int)*(bl:Int))=(lo:Int):=by rw[m,←hlo,dv_wrap,Nat.mod_eq_of_lt (by omega)]
 have r2:IntKind.u64.wrap ((ah:Int)*(bl:Int))=(p:Int):=by rw[m,←hp,dv_wrap,Nat.mod_eq_of_lt (by omega)]
 have r3:IntKind.u64.wrap ((al:Int)*(bh:Int))=(q:Int):=by rw[m,←hq,dv_wrap,Nat.mod_eq_of_lt (by omega)]
 have r4:IntKind.u64.wrap ((ah:Int)*(bh:Int))=(r:Int):=by rw[m,←hr,dv_wrap,Nat.mod_eq_of_lt (by omega)]
 obtain ⟨mm,hmm⟩:∃a,a=p+lo/4294967296:=⟨_,rfl⟩
 simp only[←hmm] at k2 k3 k4 k5
 have r5:(p:Int)+(lo:Int)/4294967296=(mm:Int):=by omega
 have r6:=dv_and mm (by omega)
 obtain ⟨ml,hml⟩:∃a,a=mm%4294967296:=⟨_,rfl⟩
 obtain ⟨kk,hkk⟩:∃a,a=q+ml:=⟨_,rfl⟩
 rw[←hml] at r6
 have r7:(q:Int)+(ml:Int)=(kk:Int):=by omega
 have r8:=dv_and lo (by omega)
 obtain ⟨ll,hll⟩:∃a,a=lo%4294967296:=⟨_,rfl⟩
 rw[←hll] at r8
 obtain ⟨X,hX⟩:∃X,X=x*y%18446744073709551616:=⟨_,rfl⟩
 have r9:bits .or .u64 (IntKind.u64.wrap ((kk:Int)*4294967296)) (ll:Int)=(X:Int):=by
  have e1:IntKind.u64.wrap ((kk:Int)*4294967296)=((kk*4294967296%18446744073709551616:Nat):Int):=by rw[IntKind.wrap_u64];omega
  have e2:kk*4294967296%18446744073709551616=2^32*(kk%4294967296):=by omega
  rw[e1,bits_or_u64_nat _ _ (by omega) (by omega),e2,←Nat.two_pow_add_eq_or_of_lt (by omega),←e2,hX,←k5]
  omega
 obtain ⟨Hh,hH⟩:∃X,X=x*y/18446744073709551616:=⟨_,rfl⟩
 have r10:(r:Int)+(mm:Int)/4294967296+(kk:Int)/4294967296=(Hh:Int):=by omega
 rw[←hX,←hH]
 have i1:(lo:Int)≤18446744073709551615:=by omega
 have i2:(p:Int)+(lo:Int)/4294967296≤18446744073709551615:=by omega
 have i3:(q:Int)+(ml:Int)≤18446744073709551615:=by omega
 have i4:(r:Int)+(mm:Int)/4294967296≤18446744073709551615:=by omega
 have i5:(Hh:Int)≤18446744073709551615:=by omega
 have i6:(mm:Int)≤18446744073709551615:=by omega
 have i7:(kk:Int)≤18446744073709551615:=by omega
 clear k1 k2 k3 k4 k5 l1 l2 l3 l4 hal hah hbl hbh hlo hp hq hr hmm hml hkk hll hX hH m hx hy
 go_enter Tryz.func135,Tryz.ntmps135
 go_wp2
 go_ret2
 exact ⟨rfl,rfl⟩
theorem i64_and63 (n:Int):bits .and .i64 n 63=n%64:=by
 have h63:(BitVec.ofInt 64 63).toNat=2^6-1:=by decide
 have key:(BitVec.ofInt 64 n &&& BitVec.ofInt 64 63).toNat=(n%((2^64:Nat):Int)).toNat%2^6:=by
  rw[BitVec.toNat_and,BitVec.toNat_ofInt,h63,Nat.and_two_pow_sub_one_eq_mod]
 show IntKind.i64.wrap ((BitVec.ofInt 64 n &&& BitVec.ofInt 64 63).toNat:Nat)=n%64
 rw[key,IntKind.wrap_i64]
 omega
theorem rmuldiv_any (a b c:Int) (ha1: -9223372036854775808≤a) (ha2:a≤9223372036854775807) (hb1: -9223372036854775808≤b) (hb2:b≤9223372036854775807) (hc1: -9223372036854775808≤c) (hc2:c≤9223372036854775807) (w:World) :
  Calls Tryz.prog 130 #[.int .i64 a, .int .i64 b, .int .i64 c] w fun e w'=>e=mdE a b c∧w=w':=by
 by_cases hc0:c=0
 ·
  subst hc0
  have E:=Lib.hid (md_no (a:=a) (b:=b) (c:=0) (by simp[mdOk]))
  go_enter Tryz.func130,Tryz.ntmps130
  go_wp2
  go_ret2
  exact ⟨E.out,rfl⟩
 have hP1:a.natAbs*b.natAbs≤9223372036854775808*9223372036854775808:=Nat.mul_le_mul (by omega) (by omega)
 have t0:(c==0)=false:=by simp[hc0]
 have sa':=rsize_any a ha1 ha2
 have sb':=rsize_any b hb1 hb2
 have sc':=rsize_any c hc1 hc2
 have sm':=times_any a.natAbs b.natAbs (by omega) (by omega)
 obtain ⟨A,hA⟩:∃A,A=a.natAbs:=⟨_,rfl⟩
 obtain ⟨B,hB⟩:∃B,B=b.natAbs:=⟨_,rfl⟩
 obtain ⟨d,hd⟩:∃d,d=c.natAbs:=⟨_,rfl⟩
 obtain ⟨H,hH⟩:∃H,H=A*B/18446744073709551616:=⟨_,rfl⟩
 obtain ⟨L,hL⟩:∃L,L=A*B%18446744073709551616:=⟨_,rfl⟩
 rw[←hA] at sa' sm' hP1;rw[←hB] at sb' sm' hP1;rw[←hd] at sc';rw[←hH,←hL] at sm'
 have hPeq:H*18446744073709551616+L=A*B:=by omega
 have hd0:1≤d:=by omega
 have hd63:d≤9223372036854775808:=by omega
 have hL1:L<18446744073709551616:=by omega
 have hH1:H<18446744073709551616:=by omega
 have sa:=Lib.hid sa';have sb:=Lib.hid sb';have sc:=Lib.hid sc';have sm:=Lib.hid sm'
 have i1:(H:Int)≤18446744073709551615:=by omega
 have i2:(L:Int)≤18446744073709551615:=by omega
 have i3:(d:Int)≤9223372036854775808:=by omega
 have i4:(1:Int)≤(d:Int):=by omega
 have LD:=Lib.hid (Ld.start (P:=A*B) (d:=d) (Nat.lt_of_le_of_lt hP1 (by decide)))
 have HP:=Lib.hid hPeq
 have HB:=Lib.hid (And.intro hd0 (And.intro hd63 (And.intro hL1 hH1)))
 have HE:=Lib.hid (And.intro hA (And.intro hB hd))
 clear sa' sb' sc' sm' hP1 hc0 hH hL hPeq hd0 hd63 hL1 hH1 hA hB hd
 go_enter Tryz.func130,Tryz.ntmps130
 go_wp2_with fail
 refine (sa.out _).mono ?_;rintro e w1 ⟨rfl,rfl⟩
 go_wp2_with fail
 refine (sb.out _).mono ?_;rintro e w1 ⟨rfl,rfl⟩
 go_wp2_with fail
 refine (sm.out _).mono ?_;rintro e w1 ⟨rfl,rfl⟩
 go_wp2_with fail
 refine (sc.out _).mono ?_;rintro e w1 ⟨rfl,rfl⟩
 go_wp2
 go_loop [11,12,13,14] (fun tq tr tv ti=>∃(k q r:Nat) (o:Bool) (i:Int),tq= .int .u64 q∧tr= .int .u64 r∧tv= .bool o∧ti= .int .i64 i∧Hid (i=(k:Int)-1)∧k≤128∧Hid (Ld (A*B) d k q r o)) (fun _ _ _ ti=>(intOf ti+1).toNat)
 case atStart=>exact ⟨128,0,0,false,127,rfl,rfl,rfl,rfl,rfl,by omega,LD⟩
 case round=>
  obtain ⟨k,q,r,o,i,rfl,rfl,rfl,rfl,hi,hk,hld⟩:=hrel
  rcases Nat.eq_zero_or_pos k with h0|h0
  ·
   subst h0
   obtain rfl:i= -1:=by have:=hi.out;omega
   have q0:=hld.out.hq
   have r0:=hld.out.hr
   have o0:=hld.out.ho
   rw[Nat.pow_zero,Nat.div_one] at q0 r0 o0
   have hr1:(r:Int)<(d:Int):=by have:=(hld.out.bound HB.out.1).1;omega
   have hq1:(q:Int)≤18446744073709551615:=by have:=(hld.out.bound HB.out.1).2;omega
   have hc0:c≠0:=by have:=HE.out.2.2;have:=HB.out.1;omega
   clear hk hi hld
   cases o
   ·
    have hqq:A*B/d<9223372036854775808:=by simpa using o0.symm
    have hq2:q=A*B/d:=by rw[q0];exact Nat.mod_eq_of_lt (by omega)
    have j5:(q:Int)≤9223372036854775807:=by omega
    obtain ⟨hA,hB,hd⟩:=HE.out
    by_cases h2:(d:Int)-(r:Int)≤(r:Int)
    ·
     have hup:=rq_up (P:=A*B) (d:=d) (by omega)
     rw[←hq2] at hup
     obtain ⟨q1,hqe⟩:∃q1,q1=q+1:=⟨_,rfl⟩
     have eQ:(q:Int)+1=(q1:Int):=by omega
     have j0:(q1:Int)≤9223372036854775808:=by omega
     by_cases h3:(4611686018427387904:Int)<(q1:Int)
     ·
      have E:=Lib.hid (md_no (a:=a) (b:=b) (c:=c) (mdOk_no (by rw[←hA,←hB,←hd];omega)))
      clear hup hqe hA hB hd q0 r0 o0 hqq hq2 hc0
      go_wp2
      go_ret2
      exact ⟨E.out,rfl⟩
     have hok:=mdOk_yes (a:=a) (b:=b) (c:=c) hc0 (by rw[←hA,←hB,←hd];omega)
     cases hn:(!((!(decide (a<0)==decide (b<0)))==decide (c<0)))
     ·
      have E:=Lib.hid (md_pos (a:=a) (b:=b) (c:=c) (q:=(q1:Int)) hok hn (by rw[←hA,←hB,←hd];omega))
      clear hup hqe hA hB hd q0 r0 o0 hqq hq2 hc0 hok
      go_wp2
      go_ret2
      exact ⟨E.out,rfl⟩
     ·
      have E:=Lib.hid (md_neg (a:=a) (b:=b) (c:=c) (q:=(q1:Int)) hok hn (by rw[←hA,←hB,←hd];omega))
      clear hup hqe hA hB hd q0 r0 o0 hqq hq2 hc0 hok
      go_wp2
      go_ret2
      exact ⟨E.out,rfl⟩
    ·
     have hup:=rq_dn (P:=A*B) (d:=d) (by omega)
     rw[←hq2] at hup
     by_cases h3:(4611686018427387904:Int)<(q:Int)
     ·
      have E:=Lib.hid (md_no (a:=a) (b:=b) (c:=c) (mdOk_no (by rw[←hA,←hB,←hd];omega)))
      clear hup hA hB hd q0 r0 o0 hqq hq2 hc0
      go_wp2
      go_ret2
      exact ⟨E.out,rfl⟩
     have hok:=mdOk_yes (a:=a) (b:=b) (c:=c) hc0 (by rw[←hA,←hB,←hd];omega)
     cases hn:(!((!(decide (a<0)==decide (b<0)))==decide (c<0)))
     ·
      have E:=Lib.hid (md_pos (a:=a) (b:=b) (c:=c) (q:=(q:Int)) hok hn (by rw[←hA,←hB,←hd];omega))
      clear hup hA hB hd q0 r0 o0 hqq hq2 hc0 hok
      go_wp2
      go_ret2
      exact ⟨E.out,rfl⟩
     ·
      have E:=Lib.hid (md_neg (a:=a) (b:=b) (c:=c) (q:=(q:Int)) hok hn (by rw[←hA,←hB,←hd];omega))
      clear hup hA hB hd q0 r0 o0 hqq hq2 hc0 hok
      go_wp2
      go_ret2
      exact ⟨E.out,rfl⟩
   ·
    have hqq:9223372036854775808≤A*B/d:=by simpa using o0.symm
    have E:=Lib.hid (md_no (a:=a) (b:=b) (c:=c) (mdOk_no (by have:=rq_ge (A*B) d;rw[←HE.out.1,←HE.out.2.1,←HE.out.2.2];omega)))
    clear q0 r0 o0 hqq hc0
    by_cases h2:(d:Int)-(r:Int)≤(r:Int)
    ·
     go_wp2
     go_ret2
     exact ⟨E.out,rfl⟩
    ·
     go_wp2
     go_ret2
     exact ⟨E.out,rfl⟩
  ·
   obtain ⟨j,rfl⟩:∃j,k=j+1:=⟨k-1,by omega⟩
   obtain rfl:i=(j:Int):=by have:=hi.out;omega
   have hj1:(j:Int)≤127:=by omega
   clear hk h0
   obtain ⟨m,hm⟩:∃m,m=j%64:=⟨_,rfl⟩
   obtain ⟨X,hX⟩:∃X,X=L/2^m:=⟨_,rfl⟩
   have a1:bits .and .i64 (j:Int) 63=(m:Int):=by rw[i64_and63,hm];omega
   have x1:(L:Int)/2^m=(X:Int):=by rw[hX,Int.natCast_ediv,Int.natCast_pow];rfl
   have hXb:X<18446744073709551616:=Nat.lt_of_le_of_lt (by rw[hX];exact Nat.div_le_self _ _) HB.out.2.2.1
   have m1:(m:Int)≤63:=by omega
   by_cases hj:(64:Int)≤(j:Int)
   ·
    obtain ⟨Y,hY⟩:∃Y,Y=H/2^(j-64):=⟨_,rfl⟩
    have y1:(H:Int)/2^(j-64)=(Y:Int):=by rw[hY,Int.natCast_ediv,Int.natCast_pow];rfl
    have hYb:Y<18446744073709551616:=Nat.lt_of_le_of_lt (by rw[hY];exact Nat.div_le_self _ _) HB.out.2.2.2
    have y2:=and_one Y hYb
    obtain ⟨b,hb⟩:∃b,b=Y%2:=⟨_,rfl⟩
    rw[←hb] at y2
    have HBt:=Lib.hid (show A*B/2^j%2=b from by rw[←HP.out,bit_hi HB.out.2.2.1 (by omega),hb,hY])
    clear hY hb hYb hX hm hXb
    have hr1:(r:Int)<(d:Int):=by have:=(hld.out.bound HB.out.1).1;omega
    have hq1:(q:Int)≤18446744073709551615:=by have:=(hld.out.bound HB.out.1).2;omega
    have b2:b<2:=by rw[←HBt.out];exact Nat.mod_lt _ (by omega)
    have t1:(r:Int)/9223372036854775808=0:=by omega
    obtain ⟨R2,hR2⟩:∃x,x=2*r:=⟨_,rfl⟩
    have s1:IntKind.u64.wrap ((r:Int)*2)=(R2:Int):=by rw[IntKind.wrap_u64];omega
    obtain ⟨R1,hR1⟩:∃x,x=2*r+b:=⟨_,rfl⟩
    have s2:bits .or .u64 (R2:Int) (b:Int)=(R1:Int):=by rw[hR2,hR1];exact or_bit (by omega) b2
    obtain ⟨Q2,hQ2⟩:∃x,x=q*2%18446744073709551616:=⟨_,rfl⟩
    have u1:IntKind.u64.wrap ((q:Int)*2)=(Q2:Int):=by rw[IntKind.wrap_u64];omega
    obtain ⟨Q3,hQ3⟩:∃x,x=Q2+1:=⟨_,rfl⟩
    have u2:bits .or .u64 (Q2:Int) 1=(Q3:Int):=by
     have e:Q2=2*(Q2/2):=by omega
     have:=or_bit (x:=Q2/2) (b:=1) (by omega) (by omega)
     rw[←e] at this
     rw[hQ3];exact this
    obtain ⟨Rd,hRd⟩:∃x,x=R1-d:=⟨_,rfl⟩
    have LDy:=Lib.hid (fun hx=>hld.out.yes (P:=A*B) HB.out.1 hx)
    have LDn:=Lib.hid (fun hx=>hld.out.no (P:=A*B) HB.out.1 hx)
    rw[HBt.out,←hQ2,←hQ3,←hR1,←hRd] at LDy
    rw[HBt.out,←hQ2,←hR1] at LDn
    have hRd':=Lib.hid hRd
    have j2:(R1:Int)≤18446744073709551615:=by omega
    clear hR2 hR1 hQ2 hQ3 hRd b2
    cases o
    ·
     by_cases hz:4611686018427387904≤(q:Int)
     ·
      have z:((q:Int)/4611686018427387904 != 0)=true:=by simp;omega
      have HO:=Lib.hid (show (false||decide (4611686018427387904≤q))=true from by simp;omega)
      clear hz
      by_cases hx:(d:Int)≤(R1:Int)
      ·
       have eRd:(R1:Int)-(d:Int)=(Rd:Int):=by have:=hRd'.out;omega
       have LD:=Lib.hid (LDy.out (by omega))
       rw[HO.out] at LD
       clear LDy LDn
       go_wp2
       go_round
       case rel=>exact ⟨j,Q3,Rd,true,(j:Int)-1,rfl,rfl,rfl,rfl,rfl,by omega,LD.out⟩
       case measure=>first|(simp[intOf];done)|(simp[intOf];omega)
      ·
       have LD:=Lib.hid (LDn.out (by omega))
       rw[HO.out] at LD
       clear LDy LDn
       go_wp2
       go_round
       case rel=>exact ⟨j,Q2,R1,true,(j:Int)-1,rfl,rfl,rfl,rfl,rfl,by omega,LD.out⟩
       case measure=>first|(simp[intOf];done)|(simp[intOf];omega)
     ·
      have z:((q:Int)/4611686018427387904 != 0)=false:=by simp;omega
      have HO:=Lib.hid (show (false||decide (4611686018427387904≤q))=false from by simp;omega)
      clear hz
      by_cases hx:(d:Int)≤(R1:Int)
      ·
       have eRd:(R1:Int)-(d:Int)=(Rd:Int):=by have:=hRd'.out;omega
       have LD:=Lib.hid (LDy.out (by omega))
       rw[HO.out] at LD
       clear LDy LDn
       go_wp2
       go_round
       case rel=>exact ⟨j,Q3,Rd,false,(j:Int)-1,rfl,rfl,rfl,rfl,rfl,by omega,LD.out⟩
       case measure=>first|(simp[intOf];done)|(simp[intOf];omega)
      ·
       have LD:=Lib.hid (LDn.out (by omega))
       rw[HO.out] at LD
       clear LDy LDn
       go_wp2
       go_round
       case rel=>exact ⟨j,Q2,R1,false,(j:Int)-1,rfl,rfl,rfl,rfl,rfl,by omega,LD.out⟩
       case measure=>first|(simp[intOf];done)|(simp[intOf];omega)
    ·
     have HO:=Lib.hid (show (true||decide (4611686018427387904≤q))=true from rfl)
     by_cases hx:(d:Int)≤(R1:Int)
     ·
      have eRd:(R1:Int)-(d:Int)=(Rd:Int):=by have:=hRd'.out;omega
      have LD:=Lib.hid (LDy.out (by omega))
      rw[HO.out] at LD
      clear LDy LDn
      go_wp2
      go_round
      case rel=>exact ⟨j,Q3,Rd,true,(j:Int)-1,rfl,rfl,rfl,rfl,rfl,by omega,LD.out⟩
      case measure=>first|(simp[intOf];done)|(simp[intOf];omega)
     ·
      have LD:=Lib.hid (LDn.out (by omega))
      rw[HO.out] at LD
      clear LDy LDn
      go_wp2
      go_round
      case rel=>exact ⟨j,Q2,R1,true,(j:Int)-1,rfl,rfl,rfl,rfl,rfl,by omega,LD.out⟩
      case measure=>first|(simp[intOf];done)|(simp[intOf];omega)
   ·
    have y2:=and_one X hXb
    obtain ⟨b,hb⟩:∃b,b=X%2:=⟨_,rfl⟩
    rw[←hb] at y2
    have HBt:=Lib.hid (show A*B/2^j%2=b from by rw[←HP.out,bit_lo (by omega),hb,hX,show m=j from by omega])
    clear hb hX hm hXb
    have hr1:(r:Int)<(d:Int):=by have:=(hld.out.bound HB.out.1).1;omega
    have hq1:(q:Int)≤18446744073709551615:=by have:=(hld.out.bound HB.out.1).2;omega
    have b2:b<2:=by rw[←HBt.out];exact Nat.mod_lt _ (by omega)
    have t1:(r:Int)/9223372036854775808=0:=by omega
    obtain ⟨R2,hR2⟩:∃x,x=2*r:=⟨_,rfl⟩
    have s1:IntKind.u64.wrap ((r:Int)*2)=(R2:Int):=by rw[IntKind.wrap_u64];omega
    obtain ⟨R1,hR1⟩:∃x,x=2*r+b:=⟨_,rfl⟩
    have s2:bits .or .u64 (R2:Int) (b:Int)=(R1:Int):=by rw[hR2,hR1];exact or_bit (by omega) b2
    obtain ⟨Q2,hQ2⟩:∃x,x=q*2%18446744073709551616:=⟨_,rfl⟩
    have u1:IntKind.u64.wrap ((q:Int)*2)=(Q2:Int):=by rw[IntKind.wrap_u64];omega
    obtain ⟨Q3,hQ3⟩:∃x,x=Q2+1:=⟨_,rfl⟩
    have u2:bits .or .u64 (Q2:Int) 1=(Q3:Int):=by
     have e:Q2=2*(Q2/2):=by omega
     have:=or_bit (x:=Q2/2) (b:=1) (by omega) (by omega)
     rw[←e] at this
     rw[hQ3];exact this
    obtain ⟨Rd,hRd⟩:∃x,x=R1-d:=⟨_,rfl⟩
    have LDy:=Lib.hid (fun hx=>hld.out.yes (P:=A*B) HB.out.1 hx)
    have LDn:=Lib.hid (fun hx=>hld.out.no (P:=A*B) HB.out.1 hx)
    rw[HBt.out,←hQ2,←hQ3,←hR1,←hRd] at LDy
    rw[HBt.out,←hQ2,←hR1] at LDn
    have hRd':=Lib.hid hRd
    have j2:(R1:Int)≤18446744073709551615:=by omega
    clear hR2 hR1 hQ2 hQ3 hRd b2
    cases o
    ·
     by_cases hz:4611686018427387904≤(q:Int)
     ·
      have z:((q:Int)/4611686018427387904 != 0)=true:=by simp;omega
      have HO:=Lib.hid (show (false||decide (4611686018427387904≤q))=true from by simp;omega)
      clear hz
      by_cases hx:(d:Int)≤(R1:Int)
      ·
       have eRd:(R1:Int)-(d:Int)=(Rd:Int):=by have:=hRd'.out;omega
       have LD:=Lib.hid (LDy.out (by omega))
       rw[HO.out] at LD
       clear LDy LDn
       go_wp2
       go_round
       case rel=>exact ⟨j,Q3,Rd,true,(j:Int)-1,rfl,rfl,rfl,rfl,rfl,by omega,LD.out⟩
       case measure=>first|(simp[intOf];done)|(simp[intOf];omega)
      ·
       have LD:=Lib.hid (LDn.out (by omega))
       rw[HO.out] at LD
       clear LDy LDn
       go_wp2
       go_round
       case rel=>exact ⟨j,Q2,R1,true,(j:Int)-1,rfl,rfl,rfl,rfl,rfl,by omega,LD.out⟩
       case measure=>first|(simp[intOf];done)|(simp[intOf];omega)
     ·
      have z:((q:Int)/4611686018427387904 != 0)=false:=by simp;omega
      have HO:=Lib.hid (show (false||decide (4611686018427387904≤q))=false from by simp;omega)
      clear hz
      by_cases hx:(d:Int)≤(R1:Int)
      ·
       have eRd:(R1:Int)-(d:Int)=(Rd:Int):=by have:=hRd'.out;omega
       have LD:=Lib.hid (LDy.out (by omega))
       rw[HO.out] at LD
       clear LDy LDn
       go_wp2
       go_round
       case rel=>exact ⟨j,Q3,Rd,false,(j:Int)-1,rfl,rfl,rfl,rfl,rfl,by omega,LD.out⟩
       case measure=>first|(simp[intOf];done)|(simp[intOf];omega)
      ·
       have LD:=Lib.hid (LDn.out (by omega))
       rw[HO.out] at LD
       clear LDy LDn
       go_wp2
       go_round
       case rel=>exact ⟨j,Q2,R1,false,(j:Int)-1,rfl,rfl,rfl,rfl,rfl,by omega,LD.out⟩
       case measure=>first|(simp[intOf];done)|(simp[intOf];omega)
    ·
     have HO:=Lib.hid (show (true||decide (4611686018427387904≤q))=true from rfl)
     by_cases hx:(d:Int)≤(R1:Int)
     ·
      have eRd:(R1:Int)-(d:Int)=(Rd:Int):=by have:=hRd'.out;omega
      have LD:=Lib.hid (LDy.out (by omega))
      rw[HO.out] at LD
      clear LDy LDn
      go_wp2
      go_round
      case rel=>exact ⟨j,Q3,Rd,true,(j:Int)-1,rfl,rfl,rfl,rfl,rfl,by omega,LD.out⟩
      case measure=>first|(simp[intOf];done)|(simp[intOf];omega)
     ·
      have LD:=Lib.hid (LDn.out (by omega))
      rw[HO.out] at LD
      clear LDy LDn
      go_wp2
      go_round
      case rel=>exact ⟨j,Q2,R1,true,(j:Int)-1,rfl,rfl,rfl,rfl,rfl,by omega,LD.out⟩
      case measure=>first|(simp[intOf];done)|(simp[intOf];omega)
end Go.Proofs.YtoncapkmaeghfaaGreat
