import Derived.Test.YtjapddfnpmlifaaGreatDoorRunRxLay
import Derived.Test.YtjapddfnpmlifaaGreatDoorRunFxBase
set_option linter.all false
set_option maxRecDepth 1000000
set_option maxHeartbeats 12800000
namespace Go.Proofs.YtjapddfnpmlifaaGreatDoor
open Go.RowKit
theorem Rkn.kid {lo hi bk:Nat} {w:World} {kids:Value} (h:Rkn lo hi w kids [bk]):∃ad c,kids= .slice (some ad) 1 c/\lo<ad.block/\ad.block<hi/\w.cell? ad=some (.pointer (some ⟨bk,0,none⟩)):=by
 obtain ⟨A,c,e,hr,hb⟩:=h;obtain ⟨ad,rfl,_,hc⟩:=hr.2 (by simp);obtain ⟨h0,h1⟩:=hb (by simp) ad rfl;exact ⟨ad,c,e,h0,h1,hc 0 _ rfl⟩
theorem Same.at_ {lo hi:Nat} {w w':World} (h:Same lo hi w w') {p:Addr} (h0:lo<p.block) (h1:p.block<hi) {u:Value} (hc:w.cell? p=some u):w'.cell? p=some u:=(World.cell?_of_block (h.2 _ h0 h1)).trans hc
theorem Same.trans {lo hi:Nat} {w w1 w2:World} (h:Same lo hi w w1) (k:Same lo hi w1 w2):Same lo hi w w2:=⟨k.1,λi h0 h1=>(k.2 i h0 h1).trans (h.2 i h0 h1)⟩
theorem WrtA.same {w w':World} {B lo hi:Nat} {A:Option Addr} {g':Option Nat} {code:List In} (h:WrtA w B A code) (x:WX B w (blk A) w' g') (hB:hi<=B):Same lo hi w w':=
 x.same hB (λk hk=>Nat.le_of_lt (h.row k hk).1) h.lt
def KidP (lo hi B bk:Nat) (w:World) (k:Pc) (n:Nat):Prop:=
 ∀(w1:World) (A1:Option Addr) (code1:List In),WrtA w1 B A1 code1->Same lo hi w w1->code1.length=n->
  Calls Tryz.prog 81 #[.pointer (some ⟨B,0,none⟩), .pointer (some ⟨bk,0,none⟩)] w1 (RetW w1 B A1 (code1++k.lay n))
theorem put_group0 {w:World} {B lo hi:Nat} {A:Option Addr} {code:List In} (hB:WrtA w B A code) {b bk:Nat} {kids:Value} {k:Pc} (hl:code.length+k.sz<=1016) (h0:lo<b) (h1:b<hi) (h2:hi<=B) (hr:Rkn lo hi w kids [bk]) (hn:Node w b 12 [] kids 0 false) (HK:KidP lo hi B bk w k code.length) :
  Calls Tryz.prog 81 #[.pointer (some ⟨B,0,none⟩), .pointer (some ⟨b,0,none⟩)] w (RetW w B A (code++k.lay code.length)):=by
 obtain ⟨ad,ac,rfl,a0,a1,ha⟩:=hr.kid;have Ha:=Lib.hid ha;have hful:decide (1024<(code.length:Int))=false:=by simp;omega
 obtain ⟨n0,n1,n2,n3,n4⟩:=id hn;go_enter Tryz.func81,Tryz.ntmps81;go_upto_region 14 with (go_at_call 82;refine (full_any hB).mono ?_;rintro e w1 ⟨rfl,rfl⟩)
 have Hh:=Lib.hid hn;clear hful hn;go_upto_region 15 with (go_at_call 81;refine (HK w A code hB ⟨by have:=hB.lt;omega,λ_ _ _=>rfl⟩ rfl).mono ?_;rintro e w2 ⟨rfl,A2,hB2,hX2⟩)
 have hS2:=hB.same (lo:=lo) hX2 h2;have hn:=Hh.out;obtain ⟨m0,m1,m2,m3,m4⟩:=hS2.node h0 h1 hn;have ha2:=hS2.at_ a0 a1 Ha.out;clear n0 n1 n2 n3 n4 ha hn HK;have Hx:=Lib.hid (And.intro hB2 hX2);clear hB2 hX2;go_wp2;go_end0;exact ⟨rfl,A2,Hx.out.1,Hx.out.2⟩
theorem put_group {w:World} {B lo hi:Nat} {A:Option Addr} {code:List In} (hB:WrtA w B A code) {b bk:Nat} {kids:Value} {k:Pc} {g:Nat} (hg:0<g) (hg5:g<=5000) (hl:code.length+k.sz<=1016) (h0:lo<b) (h1:b<hi) (h2:hi<=B) (hr:Rkn lo hi w kids [bk]) (hn:Node w b 12 [] kids g false) (HK:KidP lo hi B bk w k (code.length+1)) :
  Calls Tryz.prog 81 #[.pointer (some ⟨B,0,none⟩), .pointer (some ⟨b,0,none⟩)] w (RetW w B A (code++⟨4,2*g,0,[]⟩::(k.lay (code.length+1)++[⟨4,2*g+1,0,[]⟩]))):=by
 obtain ⟨ad,ac,rfl,a0,a1,ha⟩:=hr.kid;have Ha:=Lib.hid ha;have hful:decide (1024<(code.length:Int))=false:=by simp;omega
 obtain ⟨n0,n1,n2,n3,n4⟩:=id hn;go_enter Tryz.func81,Tryz.ntmps81;go_upto_region 13 with (go_at_call 82;refine (full_any hB).mono ?_;rintro e w1 ⟨rfl,rfl⟩)
 have Hh:=Lib.hid hn;clear hful hn;go_upto_region 14 with (go_at_call 80;refine (lays_one hB ⟨4,2*g,0,[]⟩ (by omega)).mono ?_;rintro e w2 ⟨rfl,A2,hB2,hX2⟩)
 have hS2:=hB.same (lo:=lo) hX2 h2;have hn:=Hh.out;obtain ⟨m0,m1,m2,m3,m4⟩:=hS2.node h0 h1 hn;have ha2:=hS2.at_ a0 a1 Ha.out;clear n0 n1 n2 n3 n4 ha hn;obtain ⟨code2,hc2⟩:∃c,c=code++[⟨4,2*g,0,[]⟩]:=⟨_,rfl⟩
 rw[<-hc2] at hB2;have hl2:code2.length=code.length+1:=by rw[hc2];simp
 have Hl2:=Lib.hid hl2;have Hc2:=Lib.hid hc2;clear hl2 hc2;go_upto_region 15 with (go_at_call 81;refine (HK _ A2 code2 hB2 hS2 Hl2.out).mono ?_;rintro e w3 ⟨rfl,A3,hB3,hX3⟩)
 have hS3:=hS2.trans (hB2.same (lo:=lo) hX3 h2);have hn:=Hh.out;clear m0 m1 m2 m3 m4 ha2 HK;obtain ⟨m0,m1,m2,m3,m4⟩:=hS3.node h0 h1 hn;have ha3:=hS3.at_ a0 a1 Ha.out;clear ha3 hn;obtain ⟨code3,hc3⟩:∃c,c=code2++k.lay (code.length+1):=⟨_,rfl⟩
 rw[<-hc3] at hB3;have hl3:code3.length<=code.length+1+k.sz:=by rw[hc3,List.length_append,Hl2.out,Pc.lay_len];exact Nat.le_refl _
 have Hc3:=Lib.hid hc3;clear hc3;go_wp2_with (go_at_call 80;refine (lays_one hB3 ⟨4,2*g+1,0,[]⟩ (by omega)).mono ?_;rintro e w4 ⟨rfl,A4,hB4,hX4⟩);go_end0;refine ⟨rfl,A4,?_,(hX2.trans hX3).trans hX4⟩;rw[Hc3.out,Hc2.out] at hB4;simpa using hB4
theorem set_split {code code4 l:List In} {v:In} (hc:code4=code++v::l) {L:Nat} (hL:L=code.length) (h:L<code4.length) (X Y:Int):code4.set L ⟨code4[L].op,X,Y,code4[L].ps⟩=code++⟨v.op,X,Y,v.ps⟩::l:=by
 subst hc hL;simp[List.set_append]
theorem put_star_false {w:World} {B lo hi:Nat} {A:Option Addr} {code:List In} (hB:WrtA w B A code) {b bk:Nat} {kids:Value} {k:Pc} (hl:code.length+k.sz<=1016) (h0:lo<b) (h1:b<hi) (h2:hi<=B) (hr:Rkn lo hi w kids [bk]) (hn:Node w b 42 [] kids 0 false) (HK:KidP lo hi B bk w k (code.length+1)) :
  Calls Tryz.prog 81 #[.pointer (some ⟨B,0,none⟩), .pointer (some ⟨b,0,none⟩)] w (RetW w B A (code++splitI false (code.length+1) (code.length+k.sz+2)::(k.lay (code.length+1)++[⟨3,code.length,0,[]⟩]))):=by
 obtain ⟨ad,ac,rfl,a0,a1,ha⟩:=hr.kid;have Ha:=Lib.hid ha;have hful:decide (1024<(code.length:Int))=false:=by simp;omega
 obtain ⟨n0,n1,n2,n3,n4⟩:=id hn;go_enter Tryz.func81,Tryz.ntmps81;go_upto_region 18 with (go_at_call 82;refine (full_any hB).mono ?_;rintro e w1 ⟨rfl,rfl⟩)
 have Hh:=Lib.hid hn;clear hful hn;go_upto_region 19 with (go_at_call 80;refine (lays_one hB ⟨2,0,0,[]⟩ (by omega)).mono ?_;rintro e w2 ⟨rfl,A2,hB2,hX2⟩)
 have hS2:=hB.same (lo:=lo) hX2 h2;have hn:=Hh.out;obtain ⟨m0,m1,m2,m3,m4⟩:=hS2.node h0 h1 hn;have ha2:=hS2.at_ a0 a1 Ha.out;clear n0 n1 n2 n3 n4 ha hn;obtain ⟨code2,hc2⟩:∃c,c=code++[⟨2,0,0,[]⟩]:=⟨_,rfl⟩
 rw[<-hc2] at hB2;have hl2:code2.length=code.length+1:=by rw[hc2];simp
 have Hl2:=Lib.hid hl2;have Hc2:=Lib.hid hc2;clear hl2 hc2;go_upto_region 20 with (go_at_call 81;refine (HK _ A2 code2 hB2 hS2 Hl2.out).mono ?_;rintro e w3 ⟨rfl,A3,hB3,hX3⟩)
 have hS3:=hS2.trans (hB2.same (lo:=lo) hX3 h2);clear m0 m1 m2 m3 m4 ha2 HK;obtain ⟨code3,hc3⟩:∃c,c=code2++k.lay (code.length+1):=⟨_,rfl⟩
 rw[<-hc3] at hB3;have hl3:code3.length=code.length+1+k.sz:=by rw[hc3,List.length_append,Hl2.out,Pc.lay_len]
 have hl3':code3.length<=code.length+1+k.sz:=Nat.le_of_eq hl3;have Hl3:=Lib.hid hl3;have Hc3:=Lib.hid hc3;clear hc3 hl3;go_upto_region 21 with (go_at_call 80;refine (lays_one hB3 ⟨3,code.length,0,[]⟩ (by omega)).mono ?_;rintro e w4 ⟨rfl,A4,hB4,hX4⟩)
 have hS4:=hS3.trans (hB3.same (lo:=lo) hX4 h2);have hn:=Hh.out;obtain ⟨m0,m1,m2,m3,m4⟩:=hS4.node h0 h1 hn;have ha4:=hS4.at_ a0 a1 Ha.out;clear ha4 hn m0 m1 m2 m3 hl3';obtain ⟨code4,hc4⟩:∃c,c=code3++[⟨3,code.length,0,[]⟩]:=⟨_,rfl⟩
 rw[<-hc4] at hB4;obtain ⟨N,hN⟩:∃N,N=code4.length:=⟨_,rfl⟩
 have hN':N=code.length+k.sz+2:=by rw[hN,hc4,List.length_append,Hl3.out];simp;omega
 have hN4:N<=1020:=by omega
 have hLN:code.length<N:=by omega
 obtain ⟨c4,hw4,hB4'⟩:∃c,w4.cell? ⟨B,0,none⟩=some (.slice A4 N c)/\WrtA w4 B A4 code4:=by
  obtain ⟨c,h5,h6⟩:=id hB4;rw[<-hN] at h5;exact ⟨c,h5,hB4⟩
 obtain ⟨L,hL⟩:∃L,L=code.length:=⟨_,rfl⟩
 have hb4:b<w4.heap.size:=by have:=hS4.1;omega
 have hLw:IntKind.i64.wrap ((L:Int)+1)=(L:Int)+1:=IntWalk.i64_in _ (by omega);rw[<-hL] at hLN ⊢;have HL:=Lib.hid hL;have HN:=Lib.hid (And.intro hN hN');have Hc4:=Lib.hid hc4;clear hN hN' hc4 hL hl;refine region_T 13 (by kernel_rfl) (by kernel_rfl) ?_;simp only[List.take];(iterate 7 refine qv ?_);refine qv ?_ (h:=λW hW=>by have g1:=bc hW hB4.lt hw4;go_simp<;>rfl);(iterate 4 refine qv ?_);refine qv ?_ (h:=λW hW=>by have g2:=bc hW hb4 m4;go_simp<;>rfl);refine wpQuiet_nil ?_;intro w5 hw5;simp only[List.drop];clear hLw;go_wp2_with (go_at_call 111;refine (splits_false (hB4.gr hw5) (by rw[<-HN.out.1];omega) L (by rw[<-HN.out.1];exact hLN) _ _).mono ?_;rintro e w6 ⟨rfl,hB6,hX6⟩);go_end0;refine ⟨rfl,A4,?_,(((hX2.trans hX3).trans hX4).trans (WX.gr _ hw5)).trans hX6⟩;have hNL:(N:Int)=(L:Int)+k.sz+2:=by have:=HN.out.2;have:=HL.out;omega
 rw[set_split (v:=⟨2,0,0,[]⟩) (l:=k.lay (L+1)++[⟨3,L,0,[]⟩]) (by rw[Hc4.out,Hc3.out,Hc2.out,HL.out];simp) HL.out,hNL] at hB6;exact hB6
theorem put_star_true {w:World} {B lo hi:Nat} {A:Option Addr} {code:List In} (hB:WrtA w B A code) {b bk:Nat} {kids:Value} {k:Pc} (hl:code.length+k.sz<=1016) (h0:lo<b) (h1:b<hi) (h2:hi<=B) (hr:Rkn lo hi w kids [bk]) (hn:Node w b 42 [] kids 0 true) (HK:KidP lo hi B bk w k (code.length+1)) :
  Calls Tryz.prog 81 #[.pointer (some ⟨B,0,none⟩), .pointer (some ⟨b,0,none⟩)] w (RetW w B A (code++splitI true (code.length+1) (code.length+k.sz+2)::(k.lay (code.length+1)++[⟨3,code.length,0,[]⟩]))):=by
 obtain ⟨ad,ac,rfl,a0,a1,ha⟩:=hr.kid;have Ha:=Lib.hid ha;have hful:decide (1024<(code.length:Int))=false:=by simp;omega
 obtain ⟨n0,n1,n2,n3,n4⟩:=id hn;go_enter Tryz.func81,Tryz.ntmps81;go_upto_region 18 with (go_at_call 82;refine (full_any hB).mono ?_;rintro e w1 ⟨rfl,rfl⟩)
 have Hh:=Lib.hid hn;clear hful hn;go_upto_region 19 with (go_at_call 80;refine (lays_one hB ⟨2,0,0,[]⟩ (by omega)).mono ?_;rintro e w2 ⟨rfl,A2,hB2,hX2⟩)
 have hS2:=hB.same (lo:=lo) hX2 h2;have hn:=Hh.out;obtain ⟨m0,m1,m2,m3,m4⟩:=hS2.node h0 h1 hn;have ha2:=hS2.at_ a0 a1 Ha.out;clear n0 n1 n2 n3 n4 ha hn;obtain ⟨code2,hc2⟩:∃c,c=code++[⟨2,0,0,[]⟩]:=⟨_,rfl⟩
 rw[<-hc2] at hB2;have hl2:code2.length=code.length+1:=by rw[hc2];simp
 have Hl2:=Lib.hid hl2;have Hc2:=Lib.hid hc2;clear hl2 hc2;go_upto_region 20 with (go_at_call 81;refine (HK _ A2 code2 hB2 hS2 Hl2.out).mono ?_;rintro e w3 ⟨rfl,A3,hB3,hX3⟩)
 have hS3:=hS2.trans (hB2.same (lo:=lo) hX3 h2);clear m0 m1 m2 m3 m4 ha2 HK;obtain ⟨code3,hc3⟩:∃c,c=code2++k.lay (code.length+1):=⟨_,rfl⟩
 rw[<-hc3] at hB3;have hl3:code3.length=code.length+1+k.sz:=by rw[hc3,List.length_append,Hl2.out,Pc.lay_len]
 have hl3':code3.length<=code.length+1+k.sz:=Nat.le_of_eq hl3;have Hl3:=Lib.hid hl3;have Hc3:=Lib.hid hc3;clear hc3 hl3;go_upto_region 21 with (go_at_call 80;refine (lays_one hB3 ⟨3,code.length,0,[]⟩ (by omega)).mono ?_;rintro e w4 ⟨rfl,A4,hB4,hX4⟩)
 have hS4:=hS3.trans (hB3.same (lo:=lo) hX4 h2);have hn:=Hh.out;obtain ⟨m0,m1,m2,m3,m4⟩:=hS4.node h0 h1 hn;have ha4:=hS4.at_ a0 a1 Ha.out;clear ha4 hn m0 m1 m2 m3 hl3';obtain ⟨code4,hc4⟩:∃c,c=code3++[⟨3,code.length,0,[]⟩]:=⟨_,rfl⟩
 rw[<-hc4] at hB4;obtain ⟨N,hN⟩:∃N,N=code4.length:=⟨_,rfl⟩
 have hN':N=code.length+k.sz+2:=by rw[hN,hc4,List.length_append,Hl3.out];simp;omega
 have hN4:N<=1020:=by omega
 have hLN:code.length<N:=by omega
 obtain ⟨c4,hw4,hB4'⟩:∃c,w4.cell? ⟨B,0,none⟩=some (.slice A4 N c)/\WrtA w4 B A4 code4:=by
  obtain ⟨c,h5,h6⟩:=id hB4;rw[<-hN] at h5;exact ⟨c,h5,hB4⟩
 obtain ⟨L,hL⟩:∃L,L=code.length:=⟨_,rfl⟩
 have hb4:b<w4.heap.size:=by have:=hS4.1;omega
 have hLw:IntKind.i64.wrap ((L:Int)+1)=(L:Int)+1:=IntWalk.i64_in _ (by omega);rw[<-hL] at hLN ⊢;have HL:=Lib.hid hL;have HN:=Lib.hid (And.intro hN hN');have Hc4:=Lib.hid hc4;clear hN hN' hc4 hL hl;refine region_T 13 (by kernel_rfl) (by kernel_rfl) ?_;simp only[List.take];(iterate 7 refine qv ?_);refine qv ?_ (h:=λW hW=>by have g1:=bc hW hB4.lt hw4;go_simp<;>rfl);(iterate 4 refine qv ?_);refine qv ?_ (h:=λW hW=>by have g2:=bc hW hb4 m4;go_simp<;>rfl);refine wpQuiet_nil ?_;intro w5 hw5;simp only[List.drop];clear hLw;go_wp2_with (go_at_call 111;refine (splits_true (hB4.gr hw5) (by rw[<-HN.out.1];omega) L (by rw[<-HN.out.1];exact hLN) _ _).mono ?_;rintro e w6 ⟨rfl,hB6,hX6⟩);go_end0;refine ⟨rfl,A4,?_,(((hX2.trans hX3).trans hX4).trans (WX.gr _ hw5)).trans hX6⟩;have hNL:(N:Int)=(L:Int)+k.sz+2:=by have:=HN.out.2;have:=HL.out;omega
 rw[set_split (v:=⟨2,0,0,[]⟩) (l:=k.lay (L+1)++[⟨3,L,0,[]⟩]) (by rw[Hc4.out,Hc3.out,Hc2.out,HL.out];simp) HL.out,hNL] at hB6;exact hB6
theorem put_plus_false {w:World} {B lo hi:Nat} {A:Option Addr} {code:List In} (hB:WrtA w B A code) {b bk:Nat} {kids:Value} {k:Pc} (hl:code.length+k.sz<=1016) (h0:lo<b) (h1:b<hi) (h2:hi<=B) (hr:Rkn lo hi w kids [bk]) (hn:Node w b 43 [] kids 0 false) (HK:KidP lo hi B bk w k code.length) :
  Calls Tryz.prog 81 #[.pointer (some ⟨B,0,none⟩), .pointer (some ⟨b,0,none⟩)] w (RetW w B A (code++(k.lay code.length++[splitI false code.length (code.length+k.sz+1)]))):=by
 obtain ⟨c0,hw0, -⟩:=id hB;obtain ⟨L,hL⟩:∃L,L=code.length:=⟨_,rfl⟩
 rw[<-hL] at hl HK hw0 ⊢;obtain ⟨ad,ac,rfl,a0,a1,ha⟩:=hr.kid;have Ha:=Lib.hid ha;have hful:decide (1024<(code.length:Int))=false:=by simp;omega
 obtain ⟨n0,n1,n2,n3,n4⟩:=id hn;go_enter Tryz.func81,Tryz.ntmps81;have HL:=Lib.hid hL;clear hL;go_upto_region 24 with (go_at_call 82;refine (full_any hB).mono ?_;rintro e w1 ⟨rfl,rfl⟩)
 have Hh:=Lib.hid hn;clear hful hn hw0;go_upto_region 25 with (go_at_call 81;refine (HK _ A code hB ⟨by have:=hB.lt;omega,λ_ _ _=>rfl⟩ HL.out.symm).mono ?_;rintro e w2 ⟨rfl,A2,hB2,hX2⟩)
 have hS2:=hB.same (lo:=lo) hX2 h2;clear n0 n1 n2 n3 n4 ha HK;obtain ⟨code2,hc2⟩:∃c,c=code++k.lay L:=⟨_,rfl⟩
 rw[<-hc2] at hB2;obtain ⟨M,hM⟩:∃M,M=code2.length:=⟨_,rfl⟩
 have hM':M=L+k.sz:=by rw[hM,hc2,List.length_append,<-HL.out,Pc.lay_len]
 have hMl:M<=1016:=by omega
 have hcl:code2.length<=1016:=by omega
 have HM:=Lib.hid (And.intro hM hM');have Hc2:=Lib.hid hc2;clear hM hM' hc2;go_upto_region 26 with (go_at_call 80;refine (lays_one hB2 ⟨2,0,0,[]⟩ (by omega)).mono ?_;rintro e w3 ⟨rfl,A3,hB3,hX3⟩)
 have hS3:=hS2.trans (hB2.same (lo:=lo) hX3 h2);have hn:=Hh.out;obtain ⟨m0,m1,m2,m3,m4⟩:=hS3.node h0 h1 hn;have ha3:=hS3.at_ a0 a1 Ha.out;clear hn ha3;rw[<-HM.out.1];obtain ⟨code3,hc3⟩:∃c,c=code2++[⟨2,0,0,[]⟩]:=⟨_,rfl⟩
 rw[<-hc3] at hB3;have hl3:code3.length=M+1:=by rw[hc3,List.length_append,<-HM.out.1];rfl
 have Hl3:=Lib.hid hl3;have Hc3:=Lib.hid hc3;clear hc3 hl3 hl;go_wp2_with (go_at_call 111;refine (splits_false hB3 (by rw[Hl3.out];omega) M (by rw[Hl3.out];omega) _ _).mono ?_;rintro e w6 ⟨rfl,hB6,hX6⟩);go_end0;refine ⟨rfl,A3,?_,((hX2.trans hX3)).trans hX6⟩;have hNL:(M:Int)=(L:Int)+k.sz:=by have:=HM.out.2;omega
 rw[set_split (v:=⟨2,0,0,[]⟩) (l:=[]) (by rw[Hc3.out]) HM.out.1] at hB6;rw[Hc2.out,hNL,List.append_assoc] at hB6;exact hB6
theorem put_maybe_false {w:World} {B lo hi:Nat} {A:Option Addr} {code:List In} (hB:WrtA w B A code) {b bk:Nat} {kids:Value} {k:Pc} (hl:code.length+k.sz<=1016) (h0:lo<b) (h1:b<hi) (h2:hi<=B) (hr:Rkn lo hi w kids [bk]) (hn:Node w b 63 [] kids 0 false) (HK:KidP lo hi B bk w k (code.length+1)) :
  Calls Tryz.prog 81 #[.pointer (some ⟨B,0,none⟩), .pointer (some ⟨b,0,none⟩)] w (RetW w B A (code++splitI false (code.length+1) (code.length+k.sz+1)::k.lay (code.length+1))):=by
 obtain ⟨ad,ac,rfl,a0,a1,ha⟩:=hr.kid;have Ha:=Lib.hid ha;have hful:decide (1024<(code.length:Int))=false:=by simp;omega
 obtain ⟨n0,n1,n2,n3,n4⟩:=id hn;go_enter Tryz.func81,Tryz.ntmps81;go_upto_region 28 with (go_at_call 82;refine (full_any hB).mono ?_;rintro e w1 ⟨rfl,rfl⟩)
 have Hh:=Lib.hid hn;clear hful hn;go_upto_region 29 with (go_at_call 80;refine (lays_one hB ⟨2,0,0,[]⟩ (by omega)).mono ?_;rintro e w2 ⟨rfl,A2,hB2,hX2⟩)
 have hS2:=hB.same (lo:=lo) hX2 h2;have hn:=Hh.out;obtain ⟨m0,m1,m2,m3,m4⟩:=hS2.node h0 h1 hn;have ha2:=hS2.at_ a0 a1 Ha.out;clear n0 n1 n2 n3 n4 ha hn;obtain ⟨code2,hc2⟩:∃c,c=code++[⟨2,0,0,[]⟩]:=⟨_,rfl⟩
 rw[<-hc2] at hB2;have hl2:code2.length=code.length+1:=by rw[hc2];simp
 have Hl2:=Lib.hid hl2;have Hc2:=Lib.hid hc2;clear hl2 hc2;go_upto_region 30 with (go_at_call 81;refine (HK _ A2 code2 hB2 hS2 Hl2.out).mono ?_;rintro e w3 ⟨rfl,A3,hB3,hX3⟩)
 have hS3:=hS2.trans (hB2.same (lo:=lo) hX3 h2);clear m0 m1 m2 m3 m4 ha2 HK;have hn:=Hh.out;obtain ⟨m0,m1,m2,m3,m4⟩:=hS3.node h0 h1 hn;have ha3:=hS3.at_ a0 a1 Ha.out;clear ha3 hn m0 m1 m2 m3;obtain ⟨code3,hc3⟩:∃c,c=code2++k.lay (code.length+1):=⟨_,rfl⟩
 rw[<-hc3] at hB3;obtain ⟨N,hN⟩:∃N,N=code3.length:=⟨_,rfl⟩
 have hN':N=code.length+k.sz+1:=by rw[hN,hc3,List.length_append,Hl2.out,Pc.lay_len];omega
 have hN4:N<=1020:=by omega
 have hLN:code.length<N:=by omega
 obtain ⟨c3,hw3⟩:∃c,w3.cell? ⟨B,0,none⟩=some (.slice A3 N c):=by
  obtain ⟨c,h5,h6⟩:=id hB3;rw[<-hN] at h5;exact ⟨c,h5⟩
 obtain ⟨L,hL⟩:∃L,L=code.length:=⟨_,rfl⟩
 have hb3:b<w3.heap.size:=by have:=hS3.1;omega
 have hLw:IntKind.i64.wrap ((L:Int)+1)=(L:Int)+1:=IntWalk.i64_in _ (by omega);rw[<-hL] at hLN ⊢;have HL:=Lib.hid hL;have HN:=Lib.hid (And.intro hN hN');have Hc3:=Lib.hid hc3;clear hN hN' hc3 hL hl;refine region_T 13 (by kernel_rfl) (by kernel_rfl) ?_;simp only[List.take];(iterate 7 refine qv ?_);refine qv ?_ (h:=λW hW=>by have g1:=bc hW hB3.lt hw3;go_simp<;>rfl);(iterate 4 refine qv ?_);refine qv ?_ (h:=λW hW=>by have g2:=bc hW hb3 m4;go_simp<;>rfl);refine wpQuiet_nil ?_;intro w5 hw5;simp only[List.drop];clear hLw;go_wp2_with (go_at_call 111;refine (splits_false (hB3.gr hw5) (by rw[<-HN.out.1];omega) L (by rw[<-HN.out.1];exact hLN) _ _).mono ?_;rintro e w6 ⟨rfl,hB6,hX6⟩);go_end0;refine ⟨rfl,A3,?_,((hX2.trans hX3).trans (WX.gr _ hw5)).trans hX6⟩;have hNL:(N:Int)=(L:Int)+k.sz+1:=by have:=HN.out.2;have:=HL.out;omega
 rw[set_split (v:=⟨2,0,0,[]⟩) (l:=k.lay (L+1)) (by rw[Hc3.out,Hc2.out,HL.out];simp) HL.out,hNL] at hB6;exact hB6
theorem put_plus_true {w:World} {B lo hi:Nat} {A:Option Addr} {code:List In} (hB:WrtA w B A code) {b bk:Nat} {kids:Value} {k:Pc} (hl:code.length+k.sz<=1016) (h0:lo<b) (h1:b<hi) (h2:hi<=B) (hr:Rkn lo hi w kids [bk]) (hn:Node w b 43 [] kids 0 true) (HK:KidP lo hi B bk w k code.length) :
  Calls Tryz.prog 81 #[.pointer (some ⟨B,0,none⟩), .pointer (some ⟨b,0,none⟩)] w (RetW w B A (code++(k.lay code.length++[splitI true code.length (code.length+k.sz+1)]))):=by
 obtain ⟨c0,hw0, -⟩:=id hB;obtain ⟨L,hL⟩:∃L,L=code.length:=⟨_,rfl⟩
 rw[<-hL] at hl HK hw0 ⊢;obtain ⟨ad,ac,rfl,a0,a1,ha⟩:=hr.kid;have Ha:=Lib.hid ha;have hful:decide (1024<(code.length:Int))=false:=by simp;omega
 obtain ⟨n0,n1,n2,n3,n4⟩:=id hn;go_enter Tryz.func81,Tryz.ntmps81;have HL:=Lib.hid hL;clear hL;go_upto_region 24 with (go_at_call 82;refine (full_any hB).mono ?_;rintro e w1 ⟨rfl,rfl⟩)
 have Hh:=Lib.hid hn;clear hful hn hw0;go_upto_region 25 with (go_at_call 81;refine (HK _ A code hB ⟨by have:=hB.lt;omega,λ_ _ _=>rfl⟩ HL.out.symm).mono ?_;rintro e w2 ⟨rfl,A2,hB2,hX2⟩)
 have hS2:=hB.same (lo:=lo) hX2 h2;clear n0 n1 n2 n3 n4 ha HK;obtain ⟨code2,hc2⟩:∃c,c=code++k.lay L:=⟨_,rfl⟩
 rw[<-hc2] at hB2;obtain ⟨M,hM⟩:∃M,M=code2.length:=⟨_,rfl⟩
 have hM':M=L+k.sz:=by rw[hM,hc2,List.length_append,<-HL.out,Pc.lay_len]
 have hMl:M<=1016:=by omega
 have hcl:code2.length<=1016:=by omega
 have HM:=Lib.hid (And.intro hM hM');have Hc2:=Lib.hid hc2;clear hM hM' hc2;go_upto_region 26 with (go_at_call 80;refine (lays_one hB2 ⟨2,0,0,[]⟩ (by omega)).mono ?_;rintro e w3 ⟨rfl,A3,hB3,hX3⟩)
 have hS3:=hS2.trans (hB2.same (lo:=lo) hX3 h2);have hn:=Hh.out;obtain ⟨m0,m1,m2,m3,m4⟩:=hS3.node h0 h1 hn;have ha3:=hS3.at_ a0 a1 Ha.out;clear hn ha3;rw[<-HM.out.1];obtain ⟨code3,hc3⟩:∃c,c=code2++[⟨2,0,0,[]⟩]:=⟨_,rfl⟩
 rw[<-hc3] at hB3;have hl3:code3.length=M+1:=by rw[hc3,List.length_append,<-HM.out.1];rfl
 have Hl3:=Lib.hid hl3;have Hc3:=Lib.hid hc3;clear hc3 hl3 hl;go_wp2_with (go_at_call 111;refine (splits_true hB3 (by rw[Hl3.out];omega) M (by rw[Hl3.out];omega) _ _).mono ?_;rintro e w6 ⟨rfl,hB6,hX6⟩);go_end0;refine ⟨rfl,A3,?_,((hX2.trans hX3)).trans hX6⟩;have hNL:(M:Int)=(L:Int)+k.sz:=by have:=HM.out.2;omega
 rw[set_split (v:=⟨2,0,0,[]⟩) (l:=[]) (by rw[Hc3.out]) HM.out.1] at hB6;rw[Hc2.out,hNL,List.append_assoc] at hB6;exact hB6
theorem put_maybe_true {w:World} {B lo hi:Nat} {A:Option Addr} {code:List In} (hB:WrtA w B A code) {b bk:Nat} {kids:Value} {k:Pc} (hl:code.length+k.sz<=1016) (h0:lo<b) (h1:b<hi) (h2:hi<=B) (hr:Rkn lo hi w kids [bk]) (hn:Node w b 63 [] kids 0 true) (HK:KidP lo hi B bk w k (code.length+1)) :
  Calls Tryz.prog 81 #[.pointer (some ⟨B,0,none⟩), .pointer (some ⟨b,0,none⟩)] w (RetW w B A (code++splitI true (code.length+1) (code.length+k.sz+1)::k.lay (code.length+1))):=by
 obtain ⟨ad,ac,rfl,a0,a1,ha⟩:=hr.kid;have Ha:=Lib.hid ha;have hful:decide (1024<(code.length:Int))=false:=by simp;omega
 obtain ⟨n0,n1,n2,n3,n4⟩:=id hn;go_enter Tryz.func81,Tryz.ntmps81;go_upto_region 28 with (go_at_call 82;refine (full_any hB).mono ?_;rintro e w1 ⟨rfl,rfl⟩)
 have Hh:=Lib.hid hn;clear hful hn;go_upto_region 29 with (go_at_call 80;refine (lays_one hB ⟨2,0,0,[]⟩ (by omega)).mono ?_;rintro e w2 ⟨rfl,A2,hB2,hX2⟩)
 have hS2:=hB.same (lo:=lo) hX2 h2;have hn:=Hh.out;obtain ⟨m0,m1,m2,m3,m4⟩:=hS2.node h0 h1 hn;have ha2:=hS2.at_ a0 a1 Ha.out;clear n0 n1 n2 n3 n4 ha hn;obtain ⟨code2,hc2⟩:∃c,c=code++[⟨2,0,0,[]⟩]:=⟨_,rfl⟩
 rw[<-hc2] at hB2;have hl2:code2.length=code.length+1:=by rw[hc2];simp
 have Hl2:=Lib.hid hl2;have Hc2:=Lib.hid hc2;clear hl2 hc2;go_upto_region 30 with (go_at_call 81;refine (HK _ A2 code2 hB2 hS2 Hl2.out).mono ?_;rintro e w3 ⟨rfl,A3,hB3,hX3⟩)
 have hS3:=hS2.trans (hB2.same (lo:=lo) hX3 h2);clear m0 m1 m2 m3 m4 ha2 HK;have hn:=Hh.out;obtain ⟨m0,m1,m2,m3,m4⟩:=hS3.node h0 h1 hn;have ha3:=hS3.at_ a0 a1 Ha.out;clear ha3 hn m0 m1 m2 m3;obtain ⟨code3,hc3⟩:∃c,c=code2++k.lay (code.length+1):=⟨_,rfl⟩
 rw[<-hc3] at hB3;obtain ⟨N,hN⟩:∃N,N=code3.length:=⟨_,rfl⟩
 have hN':N=code.length+k.sz+1:=by rw[hN,hc3,List.length_append,Hl2.out,Pc.lay_len];omega
 have hN4:N<=1020:=by omega
 have hLN:code.length<N:=by omega
 obtain ⟨c3,hw3⟩:∃c,w3.cell? ⟨B,0,none⟩=some (.slice A3 N c):=by
  obtain ⟨c,h5,h6⟩:=id hB3;rw[<-hN] at h5;exact ⟨c,h5⟩
 obtain ⟨L,hL⟩:∃L,L=code.length:=⟨_,rfl⟩
 have hb3:b<w3.heap.size:=by have:=hS3.1;omega
 have hLw:IntKind.i64.wrap ((L:Int)+1)=(L:Int)+1:=IntWalk.i64_in _ (by omega);rw[<-hL] at hLN ⊢;have HL:=Lib.hid hL;have HN:=Lib.hid (And.intro hN hN');have Hc3:=Lib.hid hc3;clear hN hN' hc3 hL hl;refine region_T 13 (by kernel_rfl) (by kernel_rfl) ?_;simp only[List.take];(iterate 7 refine qv ?_);refine qv ?_ (h:=λW hW=>by have g1:=bc hW hB3.lt hw3;go_simp<;>rfl);(iterate 4 refine qv ?_);refine qv ?_ (h:=λW hW=>by have g2:=bc hW hb3 m4;go_simp<;>rfl);refine wpQuiet_nil ?_;intro w5 hw5;simp only[List.drop];clear hLw;go_wp2_with (go_at_call 111;refine (splits_true (hB3.gr hw5) (by rw[<-HN.out.1];omega) L (by rw[<-HN.out.1];exact hLN) _ _).mono ?_;rintro e w6 ⟨rfl,hB6,hX6⟩);go_end0;refine ⟨rfl,A3,?_,((hX2.trans hX3).trans (WX.gr _ hw5)).trans hX6⟩;have hNL:(N:Int)=(L:Int)+k.sz+1:=by have:=HN.out.2;have:=HL.out;omega
 rw[set_split (v:=⟨2,0,0,[]⟩) (l:=k.lay (L+1)) (by rw[Hc3.out,Hc2.out,HL.out];simp) HL.out,hNL] at hB6;exact hB6
theorem PcL.app_one:∀(l:PcL) (p:Pc) (m:PcL),l.app (.cons p m)=(l.app (.cons p .nil)).app m
 | .nil,p,m=>rfl
 | .cons q l,p,m=>by rw[PcL.app,PcL.app,PcL.app,PcL.app_one l p m]
theorem PcL.len_app:∀(l m:PcL),(l.app m).len=l.len+m.len
 | .nil,m=>by simp[PcL.app,PcL.len]
 | .cons p l,m=>by simp only[PcL.app,PcL.len,PcL.len_app l m];omega
theorem PcL.szR_app:∀(l m:PcL),(l.app m).szR=l.szR+m.szR
 | .nil,m=>by simp[PcL.app,PcL.szR]
 | .cons p l,m=>by simp only[PcL.app,PcL.szR,PcL.szR_app l m];omega
theorem PcL.layR_app:∀(l m:PcL) (a:Nat),(l.app m).layR a=l.layR a++m.layR (a+l.szR)
 | .nil,m,a=>by simp[PcL.app,PcL.layR,PcL.szR]
 | .cons p l,m,a=>by simp only[PcL.app,PcL.layR,PcL.szR,PcL.layR_app l m,List.append_assoc,Nat.add_assoc]
theorem PcL.In.len {lo hi:Nat} {w:World}:∀{l:PcL} {bs:List Nat},l.In lo hi w bs->l.len=bs.length
 | .nil,bs,h=>by simp only[PcL.In] at h;subst h;rfl
 | .cons p l,bs,h=>by
  simp only[PcL.In] at h;obtain ⟨b,r,rfl,_,h2⟩:=h;simp only[PcL.len,List.length_cons,h2.len]
theorem PcL.In.get {lo hi:Nat} {w:World}:∀{l:PcL} {p:Pc} {m:PcL} {bs:List Nat},(l.app (.cons p m)).In lo hi w bs->∃bk,bs[l.len]?=some bk/\p.In lo hi w bk
 | .nil,p,m,bs,h=>by
  simp only[PcL.app,PcL.In] at h;obtain ⟨b,r,rfl,h1,_⟩:=h;exact ⟨b,rfl,h1⟩
 | .cons q l,p,m,bs,h=>by
  simp only[PcL.app,PcL.In] at h;obtain ⟨b,r,rfl,_,h2⟩:=h;obtain ⟨bk,h3,h4⟩:=PcL.In.get h2;exact ⟨bk,by simpa [PcL.len] using h3,h4⟩
theorem Rkn.at_ {lo hi k bk:Nat} {w:World} {A:Option Addr} {n c:Nat} {bs:List Nat} (h:Rkn lo hi w (.slice A n c) bs) (hk:bs[k]?=some bk):n=bs.length/\∃ad,A=some ad/\lo<ad.block/\ad.block<hi/\w.cell? (ad.add k)=some (.pointer (some ⟨bk,0,none⟩)):=by
 obtain ⟨A',c',e,hr,hb⟩:=h;have hlt:k<bs.length:=(List.getElem?_eq_some_iff.1 hk).1;injection e with e1 e2 e3;subst e1;obtain ⟨ad,rfl,_,hc⟩:=hr.2 (by omega);obtain ⟨h0,h1⟩:=hb (by omega) ad rfl;exact ⟨e2,ad,rfl,h0,h1,hc k _ (by simp[ptrs,hk])⟩
theorem Rkn.form {lo hi:Nat} {w:World} {kids:Value} {bs:List Nat} (h:Rkn lo hi w kids bs):∃A c,kids= .slice A bs.length c/\bs.length<=bs.length:=by
 obtain ⟨A,c,e,_⟩:=h;exact ⟨A,c,e,Nat.le_refl _⟩
theorem Same.add {lo hi:Nat} {w w':World} (h:Same lo hi w w') {p:Addr} {k:Nat} (h0:lo<p.block) (h1:p.block<hi) {u:Value} (hc:w.cell? (p.add k)=some u):w'.cell? (p.add k)=some u:=h.at_ (by rw[add_blk];exact h0) (by rw[add_blk];exact h1) hc
def RowR (w:World) (B:Nat) (A:Option Addr) (code:List In) (l:PcL) (k:Nat) (wr:World):Prop:=
 ∃(ds rest:PcL) (A':Option Addr),l=ds.app rest/\ds.len=k/\WrtA wr B A' (code++ds.layR code.length)/\WX B w (blk A) wr (blk A')
theorem put_row {w:World} {B lo hi:Nat} {A:Option Addr} {code:List In} (hB:WrtA w B A code) {b:Nat} {kids:Value} {l:PcL} {bs:List Nat} (hl:code.length+l.szR<=1016) (h0:lo<b) (h1:b<hi) (h2:hi<=B) (hr:Rkn lo hi w kids bs) (hbs:bs.length<=6000) (hn:Node w b 10 [] kids 0 false) (hin:l.In lo hi w bs)
  (HK:∀(ds:PcL) (p:Pc) (rest:PcL) (bk:Nat),l=ds.app (.cons p rest)->p.In lo hi w bk->KidP lo hi B bk w p (code.length+ds.szR)) :
  Calls Tryz.prog 81 #[.pointer (some ⟨B,0,none⟩), .pointer (some ⟨b,0,none⟩)] w (RetW w B A (code++l.layR code.length)):=by
 obtain ⟨KA,kc,rfl, -⟩:=hr.form;have hll:=hin.len;obtain ⟨n,hnn⟩:∃n,n=bs.length:=⟨_,rfl⟩
 rw[<-hnn] at hr hn hll hbs;have hful:decide (1024<(code.length:Int))=false:=by simp;omega
 have hst:RowR w B A code l 0 w:=⟨.nil,l,A,rfl,rfl,by simpa [PcL.layR] using hB,WX.refl _ _ _⟩
 have Hst:=Lib.hid hst;have Hll:=Lib.hid hll;clear hst hll hnn;obtain ⟨n0,n1,n2,n3,n4⟩:=hn;go_enter Tryz.func81,Tryz.ntmps81;go_wp2_with (go_at_call 82;refine (full_any hB).mono ?_;rintro e w1 ⟨rfl,rfl⟩);clear hful n0 n1 n2 n3 n4
 go_loopw [35] (λt wr=>∃k:Nat,t= .int .i64 k/\k<=n/\RowR w B A code l k wr) (λt wr=>n-(intOf t).toNat)
 case atStart=>exact ⟨0,rfl,Nat.zero_le _,Hst.out⟩
 case round=>
  obtain ⟨k,rfl,hk,HR⟩:=hrel;by_cases hlt:k<n
  ·obtain ⟨ds,rest,A1,e1,e2,hB1,hX1⟩:=HR;match rest,e1 with
   | .nil,e1=>exfalso;rw[e1,PcL.len_app] at Hll;have:=Hll.out;simp only[PcL.len] at this;omega
   | .cons p rest,e1=>
   have hin2:=hin;rw[e1] at hin2;obtain ⟨bk,hbk,hpin⟩:=hin2.get;rw[e2] at hbk;obtain ⟨-,ad,rfl,a0,a1,ha⟩:=hr.at_ hbk;have hS1:=hB.same (lo:=lo) hX1 h2;have ha1:=hS1.add a0 a1 ha;have HP:=HK ds p rest bk e1 hpin;have hlen:(code++ds.layR code.length).length=code.length+ds.szR:=by rw[List.length_append,PcL.layR_len]
   have HC:=HP wr A1 _ hB1 hS1 hlen;have He:=Lib.hid (And.intro e1 e2);have Hh:=Lib.hid (And.intro hB1 hX1);clear e1 e2 hB1 hX1 hin2 hbk ha hlen hin HK HP hl hS1 hpin hr;go_wp2_with (go_at_call 81;refine HC.mono ?_;rintro e w2 ⟨rfl,A2,hB2,hX2⟩;have Hh2:=Lib.hid (And.intro hB2 hX2);clear hB2 hX2);go_roundw;case rel=>
    refine ⟨k+1,by go_num,by omega,ds.app (.cons p .nil),rest,A2,?_,?_,?_,Hh.out.2.trans Hh2.out.2⟩
    ·rw[He.out.1];exact PcL.app_one _ _ _
    ·rw[PcL.len_app,He.out.2];rfl
    ·rw[PcL.layR_app];have:=Hh2.out.1;simpa [PcL.layR] using this
   case measure=>simp[intOf];omega
  ·have hkn:k=n:=by omega
   have HR':=Lib.hid HR;clear HR hin HK hr;go_wp2;go_end0;obtain ⟨ds,rest,A1,e1,e2,hB1,hX1⟩:=HR'.out;have:rest= .nil:=by
    cases rest with
    | nil=>rfl
    | cons q r=>exfalso;have:=Hll.out;rw[e1,PcL.len_app] at this;simp only[PcL.len] at this;omega
   subst this;rw[PcL.app_nil] at e1;rw[<-e1] at hB1;exact ⟨rfl,A1,hB1,hX1⟩
theorem info_int:(Tryz.prog.info? 3).map (λi=>(i.zero,i.size,i.bytes))=some (some (.int .i64 0),1,8):=by kernel_rfl
def PcL.layD:PcL->Nat->List Go.Proofs.YtjapddfnpmlifaaGreatDoor.In
 | .nil,_=>[]
 | .cons p l,a=>⟨2,a+1,a+p.sz+2,[]⟩::(p.lay (a+1)++(⟨3,0,0,[]⟩::l.layD (a+p.sz+2)))
def PcL.szD:PcL->Nat
 | .nil=>0
 | .cons p l=>p.sz+2+l.szD
def PcL.jsD:PcL->Nat->List Nat
 | .nil,_=>[]
 | .cons p l,a=>(a+p.sz+1)::l.jsD (a+p.sz+2)
theorem PcL.layD_len:∀(l:PcL) (a:Nat),(l.layD a).length=l.szD
 | .nil,a=>rfl
 | .cons p l,a=>by simp only[PcL.layD,PcL.szD,List.length_cons,List.length_append,Pc.lay_len,PcL.layD_len l];omega
theorem PcL.layD_one:∀(l:PcL) (p:Pc) (a:Nat),(l.app (.cons p .nil)).layD a=l.layD a++⟨2,(a+l.szD:Nat)+1,(a+l.szD:Nat)+p.sz+2,[]⟩::(p.lay (a+l.szD+1)++[⟨3,0,0,[]⟩])
 | .nil,p,a=>by simp[PcL.app,PcL.layD,PcL.szD]
 | .cons q l,p,a=>by
  simp only[PcL.app,PcL.layD,PcL.szD,PcL.layD_one l p];have e:a+q.sz+2+l.szD=a+(q.sz+2+l.szD):=by omega
  rw[e];simp
theorem PcL.jsD_one:∀(l:PcL) (p:Pc) (a:Nat),(l.app (.cons p .nil)).jsD a=l.jsD a++[a+l.szD+p.sz+1]
 | .nil,p,a=>by simp[PcL.app,PcL.jsD,PcL.szD]
 | .cons q l,p,a=>by
  simp only[PcL.app,PcL.jsD,PcL.szD,PcL.jsD_one l p];have e:a+q.sz+2+l.szD=a+(q.sz+2+l.szD):=by omega
  rw[e];simp
theorem PcL.jsD_len:∀(l:PcL) (a:Nat),(l.jsD a).length=l.len
 | .nil,a=>rfl
 | .cons p l,a=>by simp only[PcL.jsD,PcL.len,List.length_cons,PcL.jsD_len l]
theorem PcL.szW_ge:∀(l:PcL) (p q:Pc) (m:PcL),l.szD+p.sz+2<=(l.app (.cons p (.cons q m))).szW
 | .nil,p,q,m=>by simp only[PcL.app,PcL.szD,PcL.szW];first|done|omega
 | .cons r .nil,p,q,m=>by have:=PcL.szW_ge .nil p q m;simp only[PcL.app,PcL.szD,PcL.szW] at this ⊢;first|done|omega
 | .cons r (.cons s l),p,q,m=>by have:=PcL.szW_ge (.cons s l) p q m;simp only[PcL.app,PcL.szD,PcL.szW] at this ⊢;first|done|omega
theorem PcL.szW_last:∀(l:PcL) (p:Pc),(l.app (.cons p .nil)).szW=l.szD+p.sz
 | .nil,p=>by simp[PcL.app,PcL.szD,PcL.szW]
 | .cons r .nil,p=>by simp only[PcL.app,PcL.szD,PcL.szW]
 | .cons r (.cons s l),p=>by have:=PcL.szW_last (.cons s l) p;simp only[PcL.app,PcL.szD,PcL.szW] at this ⊢;first|done|omega
theorem PcL.layW_last:∀(l:PcL) (p:Pc) (a:Nat),(l.app (.cons p .nil)).layW a 0=l.layD a++p.lay (a+l.szD)
 | .nil,p,a=>by simp[PcL.app,PcL.layD,PcL.szD,PcL.layW]
 | .cons r .nil,p,a=>by
  have e:a+r.sz+2=a+(r.sz+2):=by omega
  simp[PcL.app,PcL.szD,PcL.layD,PcL.layW,e]
 | .cons r (.cons s l),p,a=>by
  have:=PcL.layW_last (.cons s l) p (a+r.sz+2);simp only[PcL.app,PcL.szD,PcL.layD,PcL.layW] at this ⊢;rw[this];have e:a+r.sz+2+(s.sz+2+l.szD)=a+(r.sz+2+(s.sz+2+l.szD)):=by omega
  rw[e];simp
theorem PcL.js_last:∀(l:PcL) (p:Pc) (a:Nat),(l.app (.cons p .nil)).js a=l.jsD a
 | .nil,p,a=>by simp[PcL.app,PcL.js,PcL.jsD]
 | .cons r .nil,p,a=>by simp[PcL.app,PcL.js,PcL.jsD]
 | .cons r (.cons s l),p,a=>by
  have:=PcL.js_last (.cons s l) p (a+r.sz+2);simp only[PcL.app,PcL.js,PcL.jsD] at this ⊢;rw[this]
theorem own_wx {w w':World} {B base:Nat} {g g':Option Nat} {e:TypeId} {size n:Nat} {v:Value} {xs:List Value} (h:w.ownsRow base e size v n xs) (x:WX B w g w' g') (hB:B<base) (hn:∀k,v.ownBlock=some k->g≠some k):w'.ownsRow base e size v n xs:=by
 obtain ⟨h1,⟨hv,h0⟩|⟨g',cap,cur,hv,hb,hh,h2⟩⟩:=h
 ·exact ⟨h1, .inl ⟨hv,h0⟩⟩
 ·exact ⟨h1, .inr ⟨g',cap,cur,hv,hb,(x.block g' (Array.getElem?_eq_some_iff.1 hh).1 (by omega) (hn g' (by rw[hv];rfl))).trans hh,h2⟩⟩
theorem WX.grow_new {B:Nat} {w w1 w2:World} {g g1 row:Option Nat} (h:WX B w g w1 g1) (x:w1.grownBy w2 row) (hr:∀k,row=some k->w.heap.size<=k):WX B w g w2 g1:=
 ⟨x.os.trans h.os,x.tape.trans h.tape,x.output.trans h.output,Nat.le_trans h.size x.size,λk hk hn hg=>(x.block k (Nat.lt_of_lt_of_le hk h.size) (λe=>by have:=hr k e.symm;omega)).trans (h.block k hk hn hg),h.row⟩
theorem icells_putX (e:Nat) (code:List In):∀(i:Nat),i<code.length->(icells code).set (i*4+1) (.int .i64 e)=icells (putX e code i):=by
 induction code with
 | nil=>intro i h;simp at h
 | cons v l ih=>
  intro i h;match i,h with
  | 0,_=>rfl
  | i+1,h=>
   have e1:(i+1)*4+1=(i*4+1)+1+1+1+1:=by omega
   rw[icells_cons,e1];simp only[List.set_cons_succ];rw[ih i (by simpa using h)];rfl
theorem WrtA.putX {w:World} {B g:Nat} {code:List In} (h:WrtA w B (some ⟨g,0,none⟩) code) {j:Nat} (hj:j<code.length) (e:Nat):WrtA (w.setCell ⟨g,j*4+1,none⟩ (.int .i64 e)) B (some ⟨g,0,none⟩) (putX e code j):=by
 obtain ⟨c,h1,h2,own,h4⟩:=h;have hgl:=own.lt g rfl;obtain ⟨o1, -⟩:=own.stored (j*4+1) (.int .i64 e);rw[icells_putX e code j hj] at o1;refine ⟨c,?_,?_,?_,by simpa using h4⟩
 ·rw[putX_len];exact (World.cell?_setCell_other w _ ⟨B,0,none⟩ _ (by first|(simp;done)|(simp;omega))).trans h1
 ·rw[World.frozen?_setCell];exact h2
 ·rw[putX_len];exact o1
theorem foldl_len (e:Nat):∀(js:List Nat) (c:List In),(js.foldl (putX e) c).length=c.length
 | [],c=>rfl
 | j::js,c=>by rw[List.foldl_cons,foldl_len e js,putX_len]
theorem WX.row_ne {B:Nat} {w w':World} {g g':Option Nat} {v:Option Nat} (x:WX B w g w' g') (h:∀k,v=some k->g≠some k) (hlt:∀k,v=some k->k<w.heap.size):∀k,v=some k->g'≠some k:=by
 intro k hk e;rcases x.row k e with e2|e2
 ·exact h k hk e2
 ·have:=hlt k hk;omega
def WaysR (w:World) (B:Nat) (A:Option Addr) (code:List In) (l:PcL) (n k:Nat) (v:Value) (wr:World):Prop:=
 ∃(ds rest:PcL) (A':Option Addr),l=ds.app rest/\ds.len=k/\k<n/\WrtA wr B A' (code++ds.layD code.length)/\WX B w (blk A) wr (blk A')/\wr.ownsRow w.heap.size 3 1 v k ((ds.jsD code.length).map λj:Nat=>Value.int .i64 (j:Int))/\∀g,v.ownBlock=some g->blk A'≠some g
def JumpR (w:World) (B g:Nat) (A:Option Addr) (code4:List In) (js:List Nat) (N:Nat) (v:Value) (i:Nat) (wr:World):Prop:=
 WrtA wr B (some ⟨g,0,none⟩) ((js.take i).foldl (putX N) code4)/\WX B w (blk A) wr (some g)/\wr.ownsRow w.heap.size 3 1 v js.length (js.map λj:Nat=>Value.int .i64 (j:Int))/\∀g',v.ownBlock=some g'->some g≠some g'
theorem JumpR.next {w wr w5:World} {B g N:Nat} {A:Option Addr} {code4:List In} {js:List Nat} {v:Value} {i j:Nat} (h:JumpR w B g A code4 js N v i wr) (h5:Gr wr w5) (hi:js[i]?=some j) (hj:j<code4.length) (hB:B<w.heap.size):JumpR w B g A code4 js N v (i+1) (w5.setCell ⟨g,j*4+1,none⟩ (.int .i64 N)):=by
 obtain ⟨h1,h2,h3,h4⟩:=h;have e:js.take (i+1)=js.take i++[j]:=by rw[List.take_add_one,hi];rfl
 have x:WX B wr (some g) (w5.setCell ⟨g,j*4+1,none⟩ (.int .i64 N)) (some g):=(WX.gr (some g) h5).set (p:=⟨g,j*4+1,none⟩) (.inr rfl) _;refine ⟨?_,h2.trans x,own_wx h3 x hB (λk hk=>h4 k hk),h4⟩;rw[e,List.foldl_append];exact (h1.gr h5).putX (by rw[foldl_len];exact hj) N
theorem ways_put {w:World} {B lo hi:Nat} {A:Option Addr} {code:List In} (hB:WrtA w B A code) {KA:Option Addr} {n kc:Nat} {l:PcL} {bs:List Nat} (hc0:0<code.length) (hl:code.length+l.szW<=1016) (h2:hi<=B) (hr:Rkn lo hi w (.slice KA n kc) bs) (hn0:0<n) (hbs:n<=6000) (hin:l.In lo hi w bs) (hln:l.len=n)
  (HK:∀(ds:PcL) (p:Pc) (rest:PcL) (bk:Nat),l=ds.app (.cons p rest)->p.In lo hi w bk->∀m,0<m->m+p.sz<=1016->KidP lo hi B bk w p m) :
  Calls Tryz.prog 110 #[.pointer (some ⟨B,0,none⟩), .slice KA n kc] w (RetW w B A (code++l.layW code.length (code.length+l.szW))):=by
 have hst:WaysR w B A code l n 0 (.slice none 0 0) w:=⟨.nil,l,A,rfl,rfl,hn0,by simpa [PcL.layD] using hB,WX.refl _ _ _,World.ownsRow_nil _ _ _ _,λg hg=>by cases hg⟩
 obtain ⟨i0,hi0,hz0,hz1,hz2⟩:=info_parts info_int;have Hst:=Lib.hid hst;have Hln:=Lib.hid hln;have Hin:=Lib.hid (And.intro hin (And.intro hr HK));have Hi:=Lib.hid (And.intro hi0 (And.intro hz0 (And.intro hz1 hz2)));have hBz:=hB.lt;have Hl:=Lib.hid hl;clear hst hln hin hr HK hi0 hz0 hz1 hz2 hl;go_enter Tryz.func110,Tryz.ntmps110;go_wp2
 go_loopw [4,12] (λv t wr=>∃k:Nat,t= .int .i64 k/\WaysR w B A code l n k v wr) (λ_ t _=>n-(intOf t).toNat)
 case atStart=>exact ⟨0,rfl,Hst.out⟩
 case round=>
  obtain ⟨k,rfl,ds,rest,A1,e1,e2,hlt,hB1,hX1,own,hvg⟩:=hrel;match rest,e1 with
  | .nil,e1=>exfalso;have:=Hln.out;rw[e1,PcL.len_app] at this;simp only[PcL.len] at this;omega
  | .cons p rest,e1=>
  obtain ⟨hin,hr,HK⟩:=Hin.out;have hin2:=hin;rw[e1] at hin2;obtain ⟨bk,hbk,hpin⟩:=hin2.get;rw[e2] at hbk;obtain ⟨-,ad,rfl,a0,a1,ha⟩:=hr.at_ hbk;have hS1:=hB.same (lo:=lo) hX1 h2;have ha1:=hS1.add a0 a1 ha;have HP:=HK ds p rest bk e1 hpin;obtain ⟨code1,hc1⟩:∃c,c=code++ds.layD code.length:=⟨_,rfl⟩
  obtain ⟨M,hM⟩:∃M,M=code1.length:=⟨_,rfl⟩
  have hM2:M=code.length+ds.szD:=by rw[hM,hc1,List.length_append,PcL.layD_len]
  rw[<-hc1] at hB1;obtain ⟨JA,jc,rfl⟩:=own_form own;have hjl:=own.lt;have Hown:=Lib.hid (And.intro own hvg);match rest,e1 with
  | .nil,e1=>
   have hsz:=PcL.szW_last ds p;rw[<-e1] at hsz;have hkn:n=k+1:=by have:=Hln.out;rw[e1,PcL.len_app] at this;simp only[PcL.len] at this;omega
   have hMl:M+p.sz<=1016:=by have:=Hl.out;omega
   have htest:((k:Int)==(n:Int)-1)=true:=by simp;omega
   have HC:=HP M (by omega) hMl wr A1 code1 hB1 hS1 hM.symm;have He:=Lib.hid (And.intro e1 (And.intro e2 (And.intro hkn hsz)));have Hh:=Lib.hid (And.intro hB1 hX1);have Hc1:=Lib.hid (And.intro hc1 (And.intro hM hM2));clear e1 e2 hkn hsz hB1 hX1 hc1 hM hM2 hin2 hbk ha hin HK HP hS1 hpin hr own hvg;go_upto_region 11 with (go_at_call 81;refine HC.mono ?_;rintro e w2 ⟨rfl,A2,hB2,hX2⟩)
   clear HC htest;obtain ⟨own,hvg⟩:=Hown.out;have hv2:=hX2.row_ne hvg (λk hk=>(hjl k hk).2);have own2:=own_wx own hX2 hBz hvg;obtain ⟨hc1,hM,hM2⟩:=Hc1.out;obtain ⟨e1,e2,hkn,hsz⟩:=He.out;obtain ⟨code4,hc4⟩:∃c,c=code1++p.lay M:=⟨_,rfl⟩
   rw[<-hc4] at hB2;obtain ⟨N,hN⟩:∃N,N=code4.length:=⟨_,rfl⟩
   have hN2:N=code.length+l.szW:=by rw[hN,hc4,List.length_append,<-hM,Pc.lay_len];omega
   obtain ⟨gA,rfl⟩:=hB2.form (by rw[<-hN];omega);obtain ⟨js,hjs⟩:∃js,js=ds.jsD code.length:=⟨_,rfl⟩
   have hjk:js.length=k:=by rw[hjs,PcL.jsD_len];exact e2
   have hj0:∀j∈js,j<N:=by
    intro j hj;rw[hjs,<-PcL.js_last ds p,<-e1] at hj;have:=PcL.js_lt _ _ _ hj;omega
   rw[<-hjs,<-hjk] at own2;have hst2:JumpR w B gA A code4 js N (.slice JA k jc) 0 w2:=⟨hB2,Hh.out.2.trans hX2,hjk▸own2,hv2⟩
   have Hst2:=Lib.hid hst2;have Hj0:=Lib.hid hj0;have Hfin:=Lib.hid (And.intro hc1 (And.intro hM2 (And.intro e1 (And.intro hc4 (And.intro hN (And.intro hN2 (And.intro hjs hjk)))))));have hNl:N<=1016:=by have:=Hl.out;omega
   have hkb:k<=6000:=by omega
   clear own hvg hv2 own2 hc1 hM hM2 e1 e2 hkn hsz hB2 hX2 hc4 hN hN2 hjs hjk hj0 hst2 hjl ha1;go_wp2
   go_loopw [52] (λt wr=>∃i:Nat,t= .int .i64 i/\i<=k/\JumpR w B gA A code4 js N (.slice JA k jc) i wr) (λt _=>k-(intOf t).toNat)
   case atStart=>exact ⟨0,rfl,Nat.zero_le _,Hst2.out⟩
   case round=>
    obtain ⟨i,rfl,hik,HJ⟩:=hrel;by_cases hlt2:i<k
    ·obtain ⟨hc1,hM2,e1,hc4,hN,hN2,hjs,hjk⟩:=Hfin.out;obtain ⟨hW1,hX5,own5,hv5⟩:=id HJ;obtain ⟨gj,rfl⟩:∃gj,JA=some ⟨gj,0,none⟩:=by
      obtain ⟨_,⟨_,h0⟩|⟨g',cap,cur,hv,_⟩⟩:=own5
      ·omega
      ·injection hv with hv1;exact ⟨g',hv1⟩
     obtain ⟨j,hj⟩:∃j,js[i]?=some j:=⟨_,List.getElem?_eq_getElem (by omega)⟩
     have hjN:=Hj0.out j (List.mem_of_getElem? hj);rw[hjk] at own5;have hcell:=own5.cellAt i (by omega);rw[List.getElem?_map,hj] at hcell;simp only[Option.map_some] at hcell;obtain ⟨c5,hwc,hwf,ownc,hBw⟩:=hW1;rw[foldl_len,<-hN] at hwc ownc;have hgz:=(ownc.lt gA rfl).2;obtain ⟨u1,hu1⟩:∃u,wr.cell? ⟨gA,j*4+1,none⟩=some u:=by
      have:=ownc.cellAt (j*4+1) (by omega);rw[List.getElem?_eq_getElem (by have:=ownc.1;omega)] at this;exact ⟨_,this⟩
     have hfr:=ownc.frozenAt (j*4+1);have hjN':(j:Int)<N:=by omega
     have HJ2:=Lib.hid (And.intro HJ (And.intro hj (by rw[<-hN];exact hjN:j<code4.length)));clear HJ hc1 hM2 e1 hc4 hN hN2 hjs hjk hX5 own5 hv5 hj ownc;go_upto_region 14 with (fail)
     clear hcell;refine region_T 12 (by kernel_rfl) (by kernel_rfl) ?_;simp only[List.take];(iterate 3 refine qv ?_);refine qv ?_ (h:=λW hW=>by have g1:=bc hW hBw hwc;go_simp<;>rfl);(iterate 4 refine qv ?_);refine qv ?_ (h:=λW hW=>by have g1:=bc hW hBw hwc;go_simp<;>rfl);(iterate 3 refine qv ?_);refine wpQuiet_nil ?_;intro w5 hw5;simp only[List.drop];have e1:=bc hw5 hgz hu1;have e2:=bf hw5 hgz hfr;clear hu1 hfr hwc;go_wp2;go_roundw;case rel=>exact ⟨i+1,by go_num,by omega,HJ2.out.1.next hw5 HJ2.out.2.1 HJ2.out.2.2 hBz⟩
     case measure=>simp[intOf];omega
    ·have hik2:i=k:=by omega
     subst hik2;go_wp2;go_end0;obtain ⟨hc1,hM2,e1,hc4,hN,hN2,hjs,hjk⟩:=Hfin.out;obtain ⟨hW1,hX5, -, -⟩:=HJ;rw[List.take_of_length_le (by omega)] at hW1;refine ⟨rfl,some ⟨gA,0,none⟩,?_,hX5⟩;have e5:code4=code++l.layW code.length 0:=by rw[hc4,hc1,e1,PcL.layW_last,hM2];simp
     have e6:js=l.js code.length:=by rw[hjs,e1,PcL.js_last]
     rw[e5,e6,fold_layW N l code _ rfl,hN2] at hW1;exact hW1
  | .cons q rest,e1=>
   have hsz:=PcL.szW_ge ds p q rest;rw[<-e1] at hsz;have hkn:k+1<n:=by have:=Hln.out;rw[e1,PcL.len_app] at this;simp only[PcL.len] at this;omega
   have hMl:M+p.sz<=1014:=by have:=Hl.out;omega
   have htest:((k:Int)==(n:Int)-1)=false:=by simp;omega
   have He:=Lib.hid (And.intro e1 e2);have Hh:=Lib.hid (And.intro hB1 hX1);have hc1l:code1.length<=1014:=by omega
   have Hc1:=Lib.hid (And.intro hc1 (And.intro hM hM2));have hbz1:B<wr.heap.size:=hB1.lt;have hbw1:w.heap.size<=wr.heap.size:=hX1.size;clear e1 e2 hX1 hc1 hM hM2 hin2 hbk ha hin HK hpin hr own hvg hsz;go_upto_region 7 with (go_at_call 80;refine (lays_one hB1 ⟨2,0,0,[]⟩ (by omega)).mono ?_;rintro e w2 ⟨rfl,A2,hB2,hX2⟩)
   rw[<-Hc1.out.2.1];obtain ⟨code2,hc2⟩:∃c,c=code1++[⟨2,0,0,[]⟩]:=⟨_,rfl⟩
   rw[<-hc2] at hB2;have hl2:code2.length=M+1:=by rw[hc2,List.length_append,<-Hc1.out.2.1];rfl
   have hS2:=hS1.trans (hB1.same (lo:=lo) hX2 h2);have HC:=HP (M+1) (by omega) (by omega) w2 A2 code2 hB2 hS2 hl2;have Hc2:=Lib.hid (And.intro hc2 hl2);have Hh2:=Lib.hid hX2;have hbw2:w.heap.size<=w2.heap.size:=by have:=hX2.size;omega
   clear hc2 hl2 hX2 hS1 HP;go_upto_region 8 with (go_at_call 81;refine HC.mono ?_;rintro e w3 ⟨rfl,A3,hB3,hX3⟩)
   obtain ⟨code3,hc3⟩:∃c,c=code2++p.lay (M+1):=⟨_,rfl⟩
   rw[<-hc3] at hB3;obtain ⟨J,hJ⟩:∃J,J=code3.length:=⟨_,rfl⟩
   have hl3:J=M+1+p.sz:=by rw[hJ,hc3,List.length_append,Hc2.out.2,Pc.lay_len]
   have hc3l:code3.length<=1016:=by omega
   have Hc3:=Lib.hid (And.intro hc3 (And.intro hJ hl3));have Hh3:=Lib.hid (And.intro hB2 hX3);obtain ⟨own,hvg⟩:=Hown.out;have hX2:=Hh2.out;have hv2:=hX2.row_ne hvg (λk hk=>(hjl k hk).2);have hlt2:∀g,(Value.slice JA k jc).ownBlock=some g->g<w2.heap.size:=λg hg=>Nat.lt_of_lt_of_le (hjl g hg).2 hX2.size;have hv3:=hX3.row_ne hv2 hlt2;have hlt3:∀g,(Value.slice JA k jc).ownBlock=some g->g<w3.heap.size:=λg hg=>Nat.lt_of_lt_of_le (hlt2 g hg) hX3.size;have hbw3:w.heap.size<=w3.heap.size:=by have:=hX3.size;omega
   have own3:=own_wx (own_wx own hX2 hBz hvg) hX3 hBz hv2;have Hown3:=Lib.hid (And.intro own3 (And.intro hv3 hlt3));have hnB:(Value.slice JA k jc).ownBlock≠some B:=λe=>by have:=(hjl B e).1;omega
   clear own hvg hX2 hv2 hlt2 hv3 hlt3 own3 hjl hc3 hJ hl3 hB2 hX3 HC;obtain ⟨hi0,hz0,hz1,hz2⟩:=Hi.out;go_upto_region 9 with (first|(go_at_call 80;refine (lays_one hB3 ⟨3,0,0,[]⟩ (by omega)).mono ?_;rintro e w4 ⟨rfl,A4,hB4,hX4⟩;have own4:=(own_wx Hown3.out.1 hX4 hBz Hown3.out.2.1).alloc (.cells #[.int .i64 (code3.length:Int)] 3);have hv4:=Lib.hid (hX4.row_ne Hown3.out.2.1 Hown3.out.2.2);have hbw4:w.heap.size<=w4.heap.size:=(by have:=hX4.size;omega))|(at_builtin;refine wpList_append_rd rfl (.tmp 32) (.tmp 37) 90 rfl w.heap.size 3 i0 _ 1 8 Tryz.underlying90 hi0 hz0 hz1 hz2 rfl (by decide) _ k _ rfl own4 (some ⟨w4.heap.size,0,none⟩) 1 1 [.int .i64 (code3.length:Int)] rfl (Rd.byte rfl 3 _) (by intro u hu;simp at hu;subst hu;rfl) (by unfold maxLen;omega) (by omega) (by simp;omega) ?_;intro v9 w9 own9 hgr9 hob9;have hB9:=WrtA.grown (hB4.gr (Gr.alloc (Gr.refl _) _)) hgr9 hnB (λk hk=>hv4.out k hk);have Hg9:=Lib.hid (And.intro own9 (And.intro hgr9 hob9));clear own9 hgr9 hob9))
   obtain ⟨code4,hc4⟩:∃c,c=code3++[⟨3,0,0,[]⟩]:=⟨_,rfl⟩
   rw[<-hc4] at hB9;obtain ⟨c4,hw4, -⟩:=id hB9;obtain ⟨N,hN⟩:∃N,N=code4.length:=⟨_,rfl⟩
   have hN3:N=code3.length+1:=by rw[hN,hc4];simp
   have hMN:M<N:=by have:=Hc3.out.2.1;have:=Hc3.out.2.2;omega
   have hNl:N<=1017:=by omega
   rw[<-hN] at hw4;have HN:=Lib.hid (And.intro hN (And.intro hN3 hc4));have Hh4:=Lib.hid (And.intro hB4 (And.intro hX4 hB3));have hb9:B<w9.heap.size:=hB9.lt;clear hN hN3 hc4 hB4 hX4 hB3 own4 hi0 hz0 hz1 hz2 hnB;go_wp2_with (go_at_call 111;refine (splits_false hB9 (by rw[<-HN.out.1];omega) M (by rw[<-HN.out.1];exact hMN) _ _).mono ?_;rintro e w10 ⟨rfl,hB10,hX10⟩;have Hh10:=Lib.hid (And.intro hB10 hX10);clear hB10 hX10);go_roundw;case rel=>
    obtain ⟨e1,e2⟩:=He.out;obtain ⟨hB10,hX10⟩:=Hh10.out;obtain ⟨own9,hgr9,hob9⟩:=Hg9.out;obtain ⟨hc1,hM,hM2⟩:=Hc1.out;obtain ⟨hc3,hJ,hl3⟩:=Hc3.out;obtain ⟨hN,hN3,hc4⟩:=HN.out;obtain ⟨own3,hv3,hlt3⟩:=Hown3.out;have hX4:=Hh4.out.2.1;have hv9:∀g,v9.ownBlock=some g->blk A4≠some g:=by
     intro g hg;rcases hob9 with e|e
     ·exact hv4.out g (e▸hg)
     ·rw[e] at hg;injection hg with hg;intro e3;have:=(Hh4.out.1.row g e3).2;simp at hg;omega
    refine ⟨k+1,by go_num,ds.app (.cons p .nil), .cons q rest,A4,?_,?_,hkn,?_,?_,?_,hv9⟩
    ·rw[e1];exact PcL.app_one _ _ _
    ·rw[PcL.len_app,e2];rfl
    ·rw[set_split (code:=code1) (v:=⟨2,0,0,[]⟩) (l:=p.lay (M+1)++[⟨3,0,0,[]⟩]) (by rw[hc4,hc3,Hc2.out.1];simp) hM] at hB10;have e5:(N:Int)=(M:Int)+p.sz+2:=by omega
     rw[e5,hc1] at hB10;rw[PcL.layD_one,<-hM2,<-List.append_assoc];exact hB10
    ·exact (((((Hh.out.2.trans Hh2.out).trans Hh3.out.2).trans hX4).trans (WX.gr _ (Gr.alloc (Gr.refl _) _))).grow_new hgr9 (λg hg=>by
      have:=(Hown3.out.1.lt g hg).1;exact this)).trans hX10
    ·rw[PcL.jsD_one,List.map_append];have e5:(((code.length+ds.szD+p.sz+1:Nat)):Int)=(code3.length:Int):=by omega
     simp only[List.map_cons,List.map_nil,e5];exact own_wx own9 hX10 hBz hv9
   case measure=>simp[intOf];omega
theorem put_ways {w:World} {B:Nat} {A:Option Addr} {code:List In} (hB:WrtA w B A code) (hl:code.length<=1016) {b:Nat} {kids:Value} (hn:Node w b 11 [] kids 0 false) {res:List In}
  (HW:Calls Tryz.prog 110 #[.pointer (some ⟨B,0,none⟩),kids] w (RetW w B A res)) :
  Calls Tryz.prog 81 #[.pointer (some ⟨B,0,none⟩), .pointer (some ⟨b,0,none⟩)] w (RetW w B A res):=by
 have hful:decide (1024<(code.length:Int))=false:=by simp;omega
 obtain ⟨n0,n1,n2,n3,n4⟩:=hn;go_enter Tryz.func81,Tryz.ntmps81;go_upto_region 10 with (go_at_call 82;refine (full_any hB).mono ?_;rintro e w1 ⟨rfl,rfl⟩)
 clear hful;go_wp2_with (go_at_call 110;refine HW.mono ?_;rintro e w2 ⟨rfl,A2,hB2,hX2⟩;have Hx:=Lib.hid (And.intro hB2 hX2);clear hB2 hX2);go_end0;exact ⟨rfl,A2,Hx.out.1,Hx.out.2⟩
def KP (p:Pc):Prop:=∀(w:World) (B:Nat) (A:Option Addr) (code:List In) (b lo hi:Nat),WrtA w B A code->p.In lo hi w b->hi<=B->0<code.length->code.length+p.sz<=1016->p.ok->
 Calls Tryz.prog 81 #[.pointer (some ⟨B,0,none⟩), .pointer (some ⟨b,0,none⟩)] w (RetW w B A (code++p.lay code.length))
theorem KP.kid {p:Pc} (h:KP p) {w:World} {B bk lo hi n:Nat} (hin:p.In lo hi w bk) (h2:hi<=B) (hn:0<n) (hs:n+p.sz<=1016) (hok:p.ok):KidP lo hi B bk w p n:=by
 intro w1 A1 code1 hB1 hS hl;have:=h w1 B A1 code1 bk lo hi hB1 (Pc.In.same hS _ _ hin) h2 (by omega) (by omega) hok
 rwa [hl] at this
theorem PcL.ok_get:∀(ds:PcL) (p:Pc) (rest:PcL),(ds.app (.cons p rest)).ok->p.ok
 | .nil,p,rest,h=>h.1
 | .cons q l,p,rest,h=>PcL.ok_get l p rest h.2
mutual
theorem put_all:∀p:Pc,KP p
 | .leaf op ps=>λw B A code b lo hi hB hin h2 h0 hs hok=>by
  simp only[Pc.In] at hin;simp only[Pc.ok] at hok;simp only[Pc.sz] at hs;simp only[Pc.lay];exact put_leaf hB (by omega) (by omega) (by have:=hB.lt;omega) hin.2.2
 | .row l=>λw B A code b lo hi hB hin h2 h0 hs hok=>by
  simp only[Pc.In] at hin;simp only[Pc.ok] at hok;simp only[Pc.sz] at hs;simp only[Pc.lay];obtain ⟨b0,b1,kids,bs,hn,hr,hl⟩:=hin;have hln:=hl.len;refine put_row hB (by omega) b0 b1 h2 hr (by omega) hn hl λds p rest bk e hp=>?_;have hk:=putL_all l ds p rest e;rw[e] at hok hs;rw[PcL.szR_app] at hs;simp only[PcL.szR] at hs;exact hk.kid hp h2 (by omega) (by omega) (PcL.ok_get ds p rest hok.2)
 | .ways l=>λw B A code b lo hi hB hin h2 h0 hs hok=>by
  simp only[Pc.In] at hin;simp only[Pc.ok] at hok;simp only[Pc.sz] at hs;simp only[Pc.lay];obtain ⟨b0,b1,kids,bs,hn,hr,hl⟩:=hin;have hln:=hl.len;obtain ⟨KA,kc,rfl, -⟩:=hr.form;obtain ⟨⟨p0,m0,e0⟩,hl6,hok⟩:=hok;refine put_ways hB (by omega) hn (ways_put hB h0 (by omega) h2 hr (by rw[<-hln,e0];simp[PcL.len]) (by omega) hl hln λds p rest bk e hp m hm0 hm=>?_);have hk:=putL_all l ds p rest e;rw[e] at hok;exact hk.kid hp h2 hm0 hm (PcL.ok_get ds p rest hok)
 | .group g k=>λw B A code b lo hi hB hin h2 h0 hs hok=>by
  simp only[Pc.In] at hin;simp only[Pc.ok] at hok;obtain ⟨b0,b1,kids,bk,hn,hr,hk⟩:=hin;have ih:=put_all k;simp only[Pc.lay];simp only[Pc.sz] at hs;cases hg:(g==0)
  ·have hg0:0<g:=by have:=beq_eq_false_iff_ne.1 hg;omega
   simp only[hg,cond_false] at hs ⊢;exact put_group hB hg0 hok.1 (by omega) b0 b1 h2 hr hn (ih.kid hk h2 (by omega) (by omega) hok.2)
  ·have hg0:g=0:=by simpa using hg
   subst hg0;simp only[hg,cond_true] at hs ⊢;exact put_group0 hB (by omega) b0 b1 h2 hr hn (ih.kid hk h2 (by omega) (by omega) hok.2)
 | .rep op z k=>λw B A code b lo hi hB hin h2 h0 hs hok=>by
  simp only[Pc.In] at hin;simp only[Pc.ok] at hok;obtain ⟨b0,b1,kids,bk,hn,hr,hk⟩:=hin;have ih:=put_all k;obtain ⟨ho,hok⟩:=hok;simp only[Pc.lay];simp only[Pc.sz] at hs;rcases ho with rfl|rfl|rfl
  ·simp only[Nat.reduceBEq,cond_true] at hs ⊢;have hK:=ih.kid (n:=code.length+1) hk h2 (by omega) (by omega) hok;cases z
   ·exact put_star_false hB (by omega) b0 b1 h2 hr hn hK
   ·exact put_star_true hB (by omega) b0 b1 h2 hr hn hK
  ·simp only[Nat.reduceBEq,cond_true,cond_false] at hs ⊢;have hK:=ih.kid (n:=code.length) hk h2 (by omega) (by omega) hok;cases z
   ·exact put_plus_false hB (by omega) b0 b1 h2 hr hn hK
   ·exact put_plus_true hB (by omega) b0 b1 h2 hr hn hK
  ·simp only[Nat.reduceBEq,cond_false] at hs ⊢;have hK:=ih.kid (n:=code.length+1) hk h2 (by omega) (by omega) hok;cases z
   ·exact put_maybe_false hB (by omega) b0 b1 h2 hr hn hK
   ·exact put_maybe_true hB (by omega) b0 b1 h2 hr hn hK
theorem putL_all:∀(l ds:PcL) (p:Pc) (rest:PcL),l=ds.app (.cons p rest)->KP p
 | .nil,ds,p,rest,e=>by cases ds<;>(simp only[PcL.app] at e;cases e)
 | .cons q l, .nil,p,rest,e=>by
  simp only[PcL.app] at e;injection e with e1 e2;rw[<-e1];exact put_all q
 | .cons q l, .cons r ds,p,rest,e=>by
  simp only[PcL.app] at e;injection e with e1 e2;exact putL_all l ds p rest e2
end
end Go.Proofs.YtjapddfnpmlifaaGreatDoor
