import Derived.Test.YtjapddfnpmlifaaGreatDoorRunRuSpec
set_option linter.all false
set_option maxRecDepth 1000000
set_option maxHeartbeats 12800000
namespace Go.Proofs.YtjapddfnpmlifaaGreatDoor
open Go.RowKit
theorem whole_digits (l:List UInt8) (h:l.all isDg=true):wholeS l=(wholeN l).map (λn:Nat=>(n:Int)):=by
 have:minusS l=false:=by
  cases l with
  | nil=>rfl
  | cons c r=>
   simp only[List.all_cons,Bool.and_eq_true,isDg_iff] at h;refine beq_eq_false_iff_ne.2 λe=>?_;subst e;have:=h.1.1
   revert this
   decide
 unfold wholeS;rw[this];rfl
theorem unitF_le (l:List UInt8):∀m:List (List (List UInt8)×Nat),(∀x∈m,x.2<=31536000)->unitF l m<=31536000
 | [],_=>Nat.zero_le _
 | (a,u)::r,h=>by
  unfold unitF;cases inLU l a
  ·exact unitF_le l r (λx hx=>h x (List.mem_cons_of_mem _ hx))
  ·exact h (a,u) List.mem_cons_self
theorem unitS_le (l:List UInt8):unitS l<=31536000:=unitF_le l names (by decide)
def RetI (x:Option Nat) (w:World) (e:Ending) (w':World):Prop:=e= .returned (.tuple #[.int .i64 (x.getD 0:Nat), .bool x.isSome])/\Gr w w'
theorem RetI.some' {x:Option Nat} {n:Int} {m:Nat} {w w':World} (h:x=some m) (hn:n=m) (g:Gr w w'):RetI x w (.returned (.tuple #[.int .i64 n, .bool true])) w':=by subst h hn;exact ⟨rfl,g⟩
theorem RetI.none' {x:Option Nat} {w w':World} (h:x=none) (g:Gr w w'):RetI x w (.returned (.tuple #[.int .i64 0, .bool false])) w':=by subst h;exact ⟨rfl,g⟩
theorem span_Interval (s:ByteArray) (hs:(s.size:Int)<=4096) (h:signB s.data.toList=false) (w:World):Calls Tryz.prog 93 #[.string s] w (RetI (intvS s.data.toList) w):=by
 obtain ⟨k,hk⟩:∃k,k=dgN s.data.toList:=⟨_,rfl⟩
 have hkl:k<=s.size:=by rw[hk];have:=dgN_le s.data.toList;simpa using this
 obtain ⟨A,hA⟩:∃A:ByteArray,A=s.extract 0 k:=⟨_,rfl⟩
 obtain ⟨B,hB⟩:∃B:ByteArray,B=s.extract k s.size:=⟨_,rfl⟩
 have hAl:A.data.toList=s.data.toList.take k:=by rw[hA,Lib.extract_data];simp
 have hBl:B.data.toList=s.data.toList.drop k:=by rw[hB,Lib.extract_to_end]
 have hAs:A.size<=s.size:=by rw[hA,ByteArray.size_extract];omega
 have hBs:B.size<=s.size:=by rw[hB,ByteArray.size_extract];omega
 obtain ⟨u,hu⟩:∃u,u=unitS B.data.toList:=⟨_,rfl⟩
 have hW:wholeS A.data.toList=(wholeN A.data.toList).map (λn:Nat=>(n:Int)):=whole_digits _ (by rw[hAl,hk];exact dgN_take _);have hI:intvS s.data.toList=match wholeN A.data.toList with|none=>none|some n=>bif u==0 then none else bif Nat.blt (maxTime/u) n then none else some (n*u):=by
  rw[hu,hAl,hBl,hk];rfl
 have hki:(k:Int)<=(s.size:Int):=by omega
 have HSG:=Lib.hid (span_signed s h);have HDG:=Lib.hid (span_digits s hs);rw[<-hk] at HDG;have HWH:=Lib.hid (dec_Whole A (by omega));have HUN:=Lib.hid (span_unit B);rw[<-hu] at HUN;have hul:u<=31536000:=by rw[hu];exact unitS_le _
 have hnl:=λn (h:wholeN A.data.toList=some n)=>wholeN_le h;have HA:=Lib.hid hA;have HB:=Lib.hid hB;clear hk hA hB hAl hBl hAs hBs hu h;cases hN:wholeN A.data.toList with
 | none=>
  have hx:Hid (intvS s.data.toList=none):=Lib.hid (by rw[hI,hN]);have hw:wholeS A.data.toList=none:=by rw[hW,hN];rfl
  rw[hw] at HWH;clear hw hW hI hN hnl;go_enter Tryz.func93,Tryz.ntmps93;go_wp2_with (first|(go_at_call 122;refine (HSG.out _).mono ?_;rintro e w' ⟨rfl,rfl⟩)|(go_at_call 123;refine (HDG.out _).mono ?_;rintro e w' ⟨rfl,rfl⟩)|(go_at_call 92;rw[<-HA.out];refine (HWH.out _).mono ?_;rintro e w' ⟨rfl,rfl⟩)|(go_at_call 124;rw[<-HB.out];refine (HUN.out _).mono ?_;rintro e w1 ⟨rfl,g1⟩));go_ret2;exact RetI.none' hx.out g1
 | some n=>
  have hn:=hnl n hN;have hn1:(n:Int)<=4611686018427387904:=by have:n<=4611686018427387904:=hn;omega
  have hw:wholeS A.data.toList=some (n:Int):=by rw[hW,hN];rfl
  rw[hw] at HWH;rw[hN] at hI;by_cases hu0:u=0
  ·subst hu0;have hx:Hid (intvS s.data.toList=none):=Lib.hid (by rw[hI];rfl);clear hw hW hI hN hnl hn;go_enter Tryz.func93,Tryz.ntmps93;go_wp2_with (first|(go_at_call 122;refine (HSG.out _).mono ?_;rintro e w' ⟨rfl,rfl⟩)|(go_at_call 123;refine (HDG.out _).mono ?_;rintro e w' ⟨rfl,rfl⟩)|(go_at_call 92;rw[<-HA.out];refine (HWH.out _).mono ?_;rintro e w' ⟨rfl,rfl⟩)|(go_at_call 124;rw[<-HB.out];refine (HUN.out _).mono ?_;rintro e w1 ⟨rfl,g1⟩));go_ret2;exact RetI.none' hx.out g1
  ·have hu1:(0:Int)<(u:Int):=by omega
   have hub:(u==0)=false:=beq_eq_false_iff_ne.2 hu0;have hui:((u:Int)==0)=false:=beq_eq_false_iff_ne.2 (by omega);have hui2:(u:Int)≠0:=by omega
   have hdv:(4294967295:Int)/(u:Int)=((maxTime/u:Nat):Int):=rfl;by_cases hb:maxTime/u<n
   ·have hx:Hid (intvS s.data.toList=none):=Lib.hid (by rw[hI];simp only[hub,cond_false,(by rw[Nat.blt_eq];exact hb:Nat.blt (maxTime/u) n=true),cond_true]);have hbi:(4294967295:Int)/(u:Int)<(n:Int):=by rw[hdv];omega
    clear hw hW hI hN hnl hn hdv hb hub hu0;go_enter Tryz.func93,Tryz.ntmps93;go_wp2_with (first|(go_at_call 122;refine (HSG.out _).mono ?_;rintro e w' ⟨rfl,rfl⟩)|(go_at_call 123;refine (HDG.out _).mono ?_;rintro e w' ⟨rfl,rfl⟩)|(go_at_call 92;rw[<-HA.out];refine (HWH.out _).mono ?_;rintro e w' ⟨rfl,rfl⟩)|(go_at_call 124;rw[<-HB.out];refine (HUN.out _).mono ?_;rintro e w1 ⟨rfl,g1⟩));go_ret2;exact RetI.none' hx.out g1
   ·have hbf:Nat.blt (maxTime/u) n=false:=by rw[Bool.eq_false_iff,ne_eq,Nat.blt_eq];exact hb
    have hx:Hid (intvS s.data.toList=some (n*u)):=Lib.hid (by rw[hI];simp only[hub,hbf,cond_false]);have hbi:¬(4294967295:Int)/(u:Int)<(n:Int):=by rw[hdv];omega
    have hm1:n*u<=maxTime:=by
     have:n<=maxTime/u:=by omega
     exact Nat.le_trans (Nat.mul_le_mul_right u this) (Nat.div_mul_le_self _ _)
    have hm2:(n:Int)*(u:Int)<=4294967295:=by
     have h:((n*u:Nat):Int)<=((4294967295:Nat):Int):=Int.ofNat_le.2 hm1;rw[Int.natCast_mul] at h;exact h
    have hm3:0<=(n:Int)*(u:Int):=Int.mul_nonneg (by omega) (by omega);clear hw hW hI hN hnl hn hdv hb hub hu0 hbf hm1;go_enter Tryz.func93,Tryz.ntmps93;go_wp2_with (first|(go_at_call 122;refine (HSG.out _).mono ?_;rintro e w' ⟨rfl,rfl⟩)|(go_at_call 123;refine (HDG.out _).mono ?_;rintro e w' ⟨rfl,rfl⟩)|(go_at_call 92;rw[<-HA.out];refine (HWH.out _).mono ?_;rintro e w' ⟨rfl,rfl⟩)|(go_at_call 124;rw[<-HB.out];refine (HUN.out _).mono ?_;rintro e w1 ⟨rfl,g1⟩));go_ret2;exact RetI.some' hx.out (by first|exact (Int.natCast_mul _ _).symm|(rw[Int.natCast_mul];simp only[Int.one_mul])) g1
theorem ref_Interval (s:ByteArray) (hs:(s.size:Int)<=4096) (h:signB s.data.toList=false) (w:World):Calls Tryz.prog 99 #[.string s] w (RetI (intvS s.data.toList) w):=by
 obtain ⟨k,hk⟩:∃k,k=dgN s.data.toList:=⟨_,rfl⟩
 have hkl:k<=s.size:=by rw[hk];have:=dgN_le s.data.toList;simpa using this
 obtain ⟨A,hA⟩:∃A:ByteArray,A=s.extract 0 k:=⟨_,rfl⟩
 obtain ⟨B,hB⟩:∃B:ByteArray,B=s.extract k s.size:=⟨_,rfl⟩
 have hAl:A.data.toList=s.data.toList.take k:=by rw[hA,Lib.extract_data];simp
 have hBl:B.data.toList=s.data.toList.drop k:=by rw[hB,Lib.extract_to_end]
 have hAs:A.size<=s.size:=by rw[hA,ByteArray.size_extract];omega
 have hBs:B.size<=s.size:=by rw[hB,ByteArray.size_extract];omega
 obtain ⟨u,hu⟩:∃u,u=unitS B.data.toList:=⟨_,rfl⟩
 have hW:wholeS A.data.toList=(wholeN A.data.toList).map (λn:Nat=>(n:Int)):=whole_digits _ (by rw[hAl,hk];exact dgN_take _);have hI:intvS s.data.toList=match wholeN A.data.toList with|none=>none|some n=>bif u==0 then none else bif Nat.blt (maxTime/u) n then none else some (n*u):=by
  rw[hu,hAl,hBl,hk];rfl
 have hki:(k:Int)<=(s.size:Int):=by omega
 obtain ⟨h0,h45,h43,n1,n2,n3⟩:=sign_no h;have HWH:=Lib.hid (ref2_Whole A (by omega));have HUN:=Lib.hid (ref_unit B);rw[<-hu] at HUN;have hul:u<=31536000:=by rw[hu];exact unitS_le _
 have hnl:=λn (h:wholeN A.data.toList=some n)=>wholeN_le h;have HA:=Lib.hid hA;have HB:=Lib.hid hB;have Hk:=Lib.hid hk;have hk1:k=0->wholeN A.data.toList=none:=λe=>by rw[hAl,e];rfl
 clear hk hA hB hAl hBl hAs hBs hu h;cases hN:wholeN A.data.toList with
 | none=>
  have hx:Hid (intvS s.data.toList=none):=Lib.hid (by rw[hI,hN]);have hw:wholeS A.data.toList=none:=by rw[hW,hN];rfl
  rw[hw] at HWH;clear hw hW hI hN hnl;go_enter Tryz.func99,Tryz.ntmps99;go_wp2
  go_loop [5] (λi=>∃j:Nat,j<=s.size/\i= .int .i64 j/\j+dgN (s.data.toList.drop j)=dgN s.data.toList) (λi=>s.size-(intOf i).toNat)
  case atStart=>exact ⟨0,Nat.zero_le _,rfl,by simp⟩
  case round=>
   obtain ⟨j,hj,rfl,ha⟩:=hrel;have Ha:=Lib.hid ha;clear ha;by_cases hgo:j<s.size/\isDg (s.data.toList.getD j 0)=true
   ·obtain ⟨hlt,hd⟩:=hgo;have hlt':(j:Int)<(s.size:Int):=by omega
    have hd2:isDg s[j]=true:=by
     have:s.data.toList.getD j 0=s[j]:=by rw[List.getD_eq_getElem?_getD,List.getElem?_eq_getElem (by simpa using hlt)];rfl
     rw[<-this];exact hd
    have HD:=Lib.hid (ref16_digit s[j]);rw[hd2] at HD;have ht:=dgN_at s j hlt;have ha:=Ha.out;rw[ht,hd2] at ha;have Ht:Hid (j+1+dgN (s.data.toList.drop (j+1))=dgN s.data.toList):=Lib.hid (by simp only[cond_true] at ha;omega);clear ht hd ha hd2;go_wp2_with (go_at_call 127;refine (HD.out _).mono ?_;rintro e w' ⟨rfl,rfl⟩);go_round;case rel=>exact ⟨j+1,by omega,by go_num,Ht.out⟩
    case measure=>simp[intOf];omega
   ·have hjk:j=k:=by
     rw[Hk.out,<-Ha.out];rcases Nat.lt_or_ge j s.size with hlt|hge
     ·have hd2:isDg s[j]=false:=by
       have:s.data.toList.getD j 0=s[j]:=by rw[List.getD_eq_getElem?_getD,List.getElem?_eq_getElem (by simpa using hlt)];rfl
       rw[<-this];cases e:isDg (s.data.toList.getD j 0) with
       | false=>rfl
       | true=>exact absurd ⟨hlt,e⟩ hgo
      rw[dgN_at s j hlt,hd2];rfl
     ·rw[List.drop_eq_nil_of_le (by simp;omega)];rfl
    subst hjk;by_cases hlt:j<s.size
    ·have hlt':(j:Int)<(s.size:Int):=by omega
     have hd2:isDg s[j]=false:=by
      have:s.data.toList.getD j 0=s[j]:=by rw[List.getD_eq_getElem?_getD,List.getElem?_eq_getElem (by simpa using hlt)];rfl
      rw[<-this];cases e:isDg (s.data.toList.getD j 0) with
      | false=>rfl
      | true=>exact absurd ⟨hlt,e⟩ hgo
     have HD:=Lib.hid (ref16_digit s[j]);rw[hd2] at HD;clear hgo hd2;go_wp2_with (first|(go_at_call 127;refine (HD.out _).mono ?_;rintro e w' ⟨rfl,rfl⟩)|(go_at_call 98;rw[<-HA.out];refine (HWH.out _).mono ?_;rintro e w' ⟨rfl,rfl⟩)|(go_at_call 128;rw[<-HB.out];refine (HUN.out _).mono ?_;rintro e w' ⟨rfl,rfl⟩));all_goals
      go_ret2;exact RetI.none' hx.out (Gr.refl _)
    ·have hge:¬(j:Int)<(s.size:Int):=by omega
     clear hgo;go_wp2_with (first|(go_at_call 98;rw[<-HA.out];refine (HWH.out _).mono ?_;rintro e w' ⟨rfl,rfl⟩)|(go_at_call 128;rw[<-HB.out];refine (HUN.out _).mono ?_;rintro e w' ⟨rfl,rfl⟩));all_goals
      go_ret2;exact RetI.none' hx.out (Gr.refl _)
 | some n=>
  have hn:=hnl n hN;have hn1:(n:Int)<=4611686018427387904:=by have:n<=4611686018427387904:=hn;omega
  have hw:wholeS A.data.toList=some (n:Int):=by rw[hW,hN];rfl
  rw[hw] at HWH;rw[hN] at hI;have hk0:((k:Int)==0)=false:=by
   rw[beq_eq_false_iff_ne];intro e;rw[hk1 (by omega)] at hN;cases hN
  by_cases hu0:u=0
  ·subst hu0;have hx:Hid (intvS s.data.toList=none):=Lib.hid (by rw[hI];rfl);clear hw hW hI hN hnl hn;go_enter Tryz.func99,Tryz.ntmps99;go_wp2
   go_loop [5] (λi=>∃j:Nat,j<=s.size/\i= .int .i64 j/\j+dgN (s.data.toList.drop j)=dgN s.data.toList) (λi=>s.size-(intOf i).toNat)
   case atStart=>exact ⟨0,Nat.zero_le _,rfl,by simp⟩
   case round=>
    obtain ⟨j,hj,rfl,ha⟩:=hrel;have Ha:=Lib.hid ha;clear ha;by_cases hgo:j<s.size/\isDg (s.data.toList.getD j 0)=true
    ·obtain ⟨hlt,hd⟩:=hgo;have hlt':(j:Int)<(s.size:Int):=by omega
     have hd2:isDg s[j]=true:=by
      have:s.data.toList.getD j 0=s[j]:=by rw[List.getD_eq_getElem?_getD,List.getElem?_eq_getElem (by simpa using hlt)];rfl
      rw[<-this];exact hd
     have HD:=Lib.hid (ref16_digit s[j]);rw[hd2] at HD;have ht:=dgN_at s j hlt;have ha:=Ha.out;rw[ht,hd2] at ha;have Ht:Hid (j+1+dgN (s.data.toList.drop (j+1))=dgN s.data.toList):=Lib.hid (by simp only[cond_true] at ha;omega);clear ht hd ha hd2;go_wp2_with (go_at_call 127;refine (HD.out _).mono ?_;rintro e w' ⟨rfl,rfl⟩);go_round;case rel=>exact ⟨j+1,by omega,by go_num,Ht.out⟩
     case measure=>simp[intOf];omega
    ·have hjk:j=k:=by
      rw[Hk.out,<-Ha.out];rcases Nat.lt_or_ge j s.size with hlt|hge
      ·have hd2:isDg s[j]=false:=by
        have:s.data.toList.getD j 0=s[j]:=by rw[List.getD_eq_getElem?_getD,List.getElem?_eq_getElem (by simpa using hlt)];rfl
        rw[<-this];cases e:isDg (s.data.toList.getD j 0) with
        | false=>rfl
        | true=>exact absurd ⟨hlt,e⟩ hgo
       rw[dgN_at s j hlt,hd2];rfl
      ·rw[List.drop_eq_nil_of_le (by simp;omega)];rfl
     subst hjk;by_cases hlt:j<s.size
     ·have hlt':(j:Int)<(s.size:Int):=by omega
      have hd2:isDg s[j]=false:=by
       have:s.data.toList.getD j 0=s[j]:=by rw[List.getD_eq_getElem?_getD,List.getElem?_eq_getElem (by simpa using hlt)];rfl
       rw[<-this];cases e:isDg (s.data.toList.getD j 0) with
       | false=>rfl
       | true=>exact absurd ⟨hlt,e⟩ hgo
      have HD:=Lib.hid (ref16_digit s[j]);rw[hd2] at HD;clear hgo hd2;go_wp2_with (first|(go_at_call 127;refine (HD.out _).mono ?_;rintro e w' ⟨rfl,rfl⟩)|(go_at_call 98;rw[<-HA.out];refine (HWH.out _).mono ?_;rintro e w' ⟨rfl,rfl⟩)|(go_at_call 128;rw[<-HB.out];refine (HUN.out _).mono ?_;rintro e w' ⟨rfl,rfl⟩));all_goals
       go_ret2;exact RetI.none' hx.out (Gr.refl _)
     ·have hge:¬(j:Int)<(s.size:Int):=by omega
      clear hgo;go_wp2_with (first|(go_at_call 98;rw[<-HA.out];refine (HWH.out _).mono ?_;rintro e w' ⟨rfl,rfl⟩)|(go_at_call 128;rw[<-HB.out];refine (HUN.out _).mono ?_;rintro e w' ⟨rfl,rfl⟩));all_goals
       go_ret2;exact RetI.none' hx.out (Gr.refl _)
  ·have hu1:(0:Int)<(u:Int):=by omega
   have hub:(u==0)=false:=beq_eq_false_iff_ne.2 hu0;have hui:((u:Int)==0)=false:=beq_eq_false_iff_ne.2 (by omega);have hui2:(u:Int)≠0:=by omega
   have hdv:(4294967295:Int)/(u:Int)=((maxTime/u:Nat):Int):=rfl;by_cases hb:maxTime/u<n
   ·have hx:Hid (intvS s.data.toList=none):=Lib.hid (by rw[hI];simp only[hub,cond_false,(by rw[Nat.blt_eq];exact hb:Nat.blt (maxTime/u) n=true),cond_true]);have hbi:(4294967295:Int)/(u:Int)<(n:Int):=by rw[hdv];omega
    clear hw hW hI hN hnl hn hdv hb hub hu0;go_enter Tryz.func99,Tryz.ntmps99;go_wp2
    go_loop [5] (λi=>∃j:Nat,j<=s.size/\i= .int .i64 j/\j+dgN (s.data.toList.drop j)=dgN s.data.toList) (λi=>s.size-(intOf i).toNat)
    case atStart=>exact ⟨0,Nat.zero_le _,rfl,by simp⟩
    case round=>
     obtain ⟨j,hj,rfl,ha⟩:=hrel;have Ha:=Lib.hid ha;clear ha;by_cases hgo:j<s.size/\isDg (s.data.toList.getD j 0)=true
     ·obtain ⟨hlt,hd⟩:=hgo;have hlt':(j:Int)<(s.size:Int):=by omega
      have hd2:isDg s[j]=true:=by
       have:s.data.toList.getD j 0=s[j]:=by rw[List.getD_eq_getElem?_getD,List.getElem?_eq_getElem (by simpa using hlt)];rfl
       rw[<-this];exact hd
      have HD:=Lib.hid (ref16_digit s[j]);rw[hd2] at HD;have ht:=dgN_at s j hlt;have ha:=Ha.out;rw[ht,hd2] at ha;have Ht:Hid (j+1+dgN (s.data.toList.drop (j+1))=dgN s.data.toList):=Lib.hid (by simp only[cond_true] at ha;omega);clear ht hd ha hd2;go_wp2_with (go_at_call 127;refine (HD.out _).mono ?_;rintro e w' ⟨rfl,rfl⟩);go_round;case rel=>exact ⟨j+1,by omega,by go_num,Ht.out⟩
      case measure=>simp[intOf];omega
     ·have hjk:j=k:=by
       rw[Hk.out,<-Ha.out];rcases Nat.lt_or_ge j s.size with hlt|hge
       ·have hd2:isDg s[j]=false:=by
         have:s.data.toList.getD j 0=s[j]:=by rw[List.getD_eq_getElem?_getD,List.getElem?_eq_getElem (by simpa using hlt)];rfl
         rw[<-this];cases e:isDg (s.data.toList.getD j 0) with
         | false=>rfl
         | true=>exact absurd ⟨hlt,e⟩ hgo
        rw[dgN_at s j hlt,hd2];rfl
       ·rw[List.drop_eq_nil_of_le (by simp;omega)];rfl
      subst hjk;by_cases hlt:j<s.size
      ·have hlt':(j:Int)<(s.size:Int):=by omega
       have hd2:isDg s[j]=false:=by
        have:s.data.toList.getD j 0=s[j]:=by rw[List.getD_eq_getElem?_getD,List.getElem?_eq_getElem (by simpa using hlt)];rfl
        rw[<-this];cases e:isDg (s.data.toList.getD j 0) with
        | false=>rfl
        | true=>exact absurd ⟨hlt,e⟩ hgo
       have HD:=Lib.hid (ref16_digit s[j]);rw[hd2] at HD;clear hgo hd2;go_wp2_with (first|(go_at_call 127;refine (HD.out _).mono ?_;rintro e w' ⟨rfl,rfl⟩)|(go_at_call 98;rw[<-HA.out];refine (HWH.out _).mono ?_;rintro e w' ⟨rfl,rfl⟩)|(go_at_call 128;rw[<-HB.out];refine (HUN.out _).mono ?_;rintro e w' ⟨rfl,rfl⟩));all_goals
        go_ret2;exact RetI.none' hx.out (Gr.refl _)
      ·have hge:¬(j:Int)<(s.size:Int):=by omega
       clear hgo;go_wp2_with (first|(go_at_call 98;rw[<-HA.out];refine (HWH.out _).mono ?_;rintro e w' ⟨rfl,rfl⟩)|(go_at_call 128;rw[<-HB.out];refine (HUN.out _).mono ?_;rintro e w' ⟨rfl,rfl⟩));all_goals
        go_ret2;exact RetI.none' hx.out (Gr.refl _)
   ·have hbf:Nat.blt (maxTime/u) n=false:=by rw[Bool.eq_false_iff,ne_eq,Nat.blt_eq];exact hb
    have hx:Hid (intvS s.data.toList=some (n*u)):=Lib.hid (by rw[hI];simp only[hub,hbf,cond_false]);have hbi:¬(4294967295:Int)/(u:Int)<(n:Int):=by rw[hdv];omega
    have hm1:n*u<=maxTime:=by
     have:n<=maxTime/u:=by omega
     exact Nat.le_trans (Nat.mul_le_mul_right u this) (Nat.div_mul_le_self _ _)
    have hm2:(n:Int)*(u:Int)<=4294967295:=by
     have h:((n*u:Nat):Int)<=((4294967295:Nat):Int):=Int.ofNat_le.2 hm1;rw[Int.natCast_mul] at h;exact h
    have hm3:0<=(n:Int)*(u:Int):=Int.mul_nonneg (by omega) (by omega);clear hw hW hI hN hnl hn hdv hb hub hu0 hbf hm1;go_enter Tryz.func99,Tryz.ntmps99;go_wp2
    go_loop [5] (λi=>∃j:Nat,j<=s.size/\i= .int .i64 j/\j+dgN (s.data.toList.drop j)=dgN s.data.toList) (λi=>s.size-(intOf i).toNat)
    case atStart=>exact ⟨0,Nat.zero_le _,rfl,by simp⟩
    case round=>
     obtain ⟨j,hj,rfl,ha⟩:=hrel;have Ha:=Lib.hid ha;clear ha;by_cases hgo:j<s.size/\isDg (s.data.toList.getD j 0)=true
     ·obtain ⟨hlt,hd⟩:=hgo;have hlt':(j:Int)<(s.size:Int):=by omega
      have hd2:isDg s[j]=true:=by
       have:s.data.toList.getD j 0=s[j]:=by rw[List.getD_eq_getElem?_getD,List.getElem?_eq_getElem (by simpa using hlt)];rfl
       rw[<-this];exact hd
      have HD:=Lib.hid (ref16_digit s[j]);rw[hd2] at HD;have ht:=dgN_at s j hlt;have ha:=Ha.out;rw[ht,hd2] at ha;have Ht:Hid (j+1+dgN (s.data.toList.drop (j+1))=dgN s.data.toList):=Lib.hid (by simp only[cond_true] at ha;omega);clear ht hd ha hd2;go_wp2_with (go_at_call 127;refine (HD.out _).mono ?_;rintro e w' ⟨rfl,rfl⟩);go_round;case rel=>exact ⟨j+1,by omega,by go_num,Ht.out⟩
      case measure=>simp[intOf];omega
     ·have hjk:j=k:=by
       rw[Hk.out,<-Ha.out];rcases Nat.lt_or_ge j s.size with hlt|hge
       ·have hd2:isDg s[j]=false:=by
         have:s.data.toList.getD j 0=s[j]:=by rw[List.getD_eq_getElem?_getD,List.getElem?_eq_getElem (by simpa using hlt)];rfl
         rw[<-this];cases e:isDg (s.data.toList.getD j 0) with
         | false=>rfl
         | true=>exact absurd ⟨hlt,e⟩ hgo
        rw[dgN_at s j hlt,hd2];rfl
       ·rw[List.drop_eq_nil_of_le (by simp;omega)];rfl
      subst hjk;by_cases hlt:j<s.size
      ·have hlt':(j:Int)<(s.size:Int):=by omega
       have hd2:isDg s[j]=false:=by
        have:s.data.toList.getD j 0=s[j]:=by rw[List.getD_eq_getElem?_getD,List.getElem?_eq_getElem (by simpa using hlt)];rfl
        rw[<-this];cases e:isDg (s.data.toList.getD j 0) with
        | false=>rfl
        | true=>exact absurd ⟨hlt,e⟩ hgo
       have HD:=Lib.hid (ref16_digit s[j]);rw[hd2] at HD;clear hgo hd2;go_wp2_with (first|(go_at_call 127;refine (HD.out _).mono ?_;rintro e w' ⟨rfl,rfl⟩)|(go_at_call 98;rw[<-HA.out];refine (HWH.out _).mono ?_;rintro e w' ⟨rfl,rfl⟩)|(go_at_call 128;rw[<-HB.out];refine (HUN.out _).mono ?_;rintro e w' ⟨rfl,rfl⟩));all_goals
        go_ret2;exact RetI.some' hx.out (by first|exact (Int.natCast_mul _ _).symm|(rw[Int.natCast_mul];simp only[Int.one_mul])) (Gr.refl _)
      ·have hge:¬(j:Int)<(s.size:Int):=by omega
       clear hgo;go_wp2_with (first|(go_at_call 98;rw[<-HA.out];refine (HWH.out _).mono ?_;rintro e w' ⟨rfl,rfl⟩)|(go_at_call 128;rw[<-HB.out];refine (HUN.out _).mono ?_;rintro e w' ⟨rfl,rfl⟩));all_goals
        go_ret2;exact RetI.some' hx.out (by first|exact (Int.natCast_mul _ _).symm|(rw[Int.natCast_mul];simp only[Int.one_mul])) (Gr.refl _)
theorem Gr.drewN' {a w:World} (h:Gr a w) (n:Nat):Gr a (w.drewN n):=⟨h.os,h.tape,h.output,h.size,h.block⟩
theorem whole_plain {l:List UInt8} (h:signB l=false):wholeS l=(wholeN l).map (λn:Nat=>(n:Int)):=by
 have hm:minusS l=false:=by
  match l with
  | []=>rfl
  | c::r=>
   simp only[signB,Bool.or_eq_false_iff] at h;exact h.1
 unfold wholeS;rw[hm];rfl
theorem sign_yes {s:ByteArray} (h:signB s.data.toList=true):s=⟨#[]⟩\/(∃h0:(0:Int)<(s.size:Int),s.toList.isEmpty=false/\s.data.toList.isEmpty=false/\(s.toList==[])=false/\(((s[0]'(by omega)).toNat:Int)==45)=true)\/(∃h0:(0:Int)<(s.size:Int),s.toList.isEmpty=false/\s.data.toList.isEmpty=false/\(s.toList==[])=false/\(((s[0]'(by omega)).toNat:Int)==45)=false/\(((s[0]'(by omega)).toNat:Int)==43)=true):=by
 rcases Nat.eq_zero_or_pos s.size with e|h0
 ·left;apply ByteArray.ext;apply Array.eq_empty_of_size_eq_zero;exact e
 ·right;have hl:0<s.data.toList.length:=by simpa using h0
  have hc:s.data.toList=s[0]::s.data.toList.drop 1:=by
   have:=List.drop_eq_getElem_cons hl
   rwa [List.drop_zero] at this
  have hb:(s[0]==45||s[0]==43)=true:=by rw[hc] at h;exact h
  have a1:s.toList.isEmpty=false:=by rw[toList_data_ru];rw[List.isEmpty_eq_false_iff];exact ne_nil (by omega)
  have a2:s.data.toList.isEmpty=false:=by rw[List.isEmpty_eq_false_iff];exact ne_nil (by omega)
  have a3:(s.toList==[])=false:=by rw[toList_data_ru,beq_eq_false_iff_ne];exact ne_nil (by omega)
  rw[Bool.or_eq_true] at hb;cases h5:(s[0]==45)
  ·right;rw[h5] at hb;have h3:s[0]=43:=by simpa using hb
   refine ⟨by omega,a1,a2,a3,?_,?_⟩
   ·rw[h3];rfl
   ·rw[h3];rfl
  ·left;have h3:s[0]=45:=by simpa using h5
   refine ⟨by omega,a1,a2,a3,?_⟩;rw[h3];rfl
def RetU:Option (Nat×Bool)->World->Ending->World->Prop
 | some (n,b),w,e,w'=>e= .returned (.tuple #[.int .i64 (n:Nat), .bool b, .bool true])/\Gr w w'
 | none,w,e,w'=>∃b,e= .returned (.tuple #[.int .i64 0, .bool b, .bool false])/\Gr w w'
theorem RetU.weak {x:Option (Nat×Bool)} {w w':World} {e:Ending} (h:RetU x w e w'):∃(n:Nat) (b o:Bool),e= .returned (.tuple #[.int .i64 (n:Nat), .bool b, .bool o])/\Gr w w':=by
 match x,h with
 | some (n,b),h=>exact ⟨n,b,true,h⟩
 | none,⟨b,h,g⟩=>exact ⟨0,b,false,h,g⟩
theorem rules_unsigned (s:ByteArray) (hs:(s.size:Int)<=4096) (w:World):Calls Tryz.prog 59 #[.string s] w (RetU (unsS s.data.toList) w):=by
 cases hsg:signB s.data.toList;case true=>
  have hu:unsS s.data.toList=none:=by unfold unsS;rw[hsg];rfl
  rw[hu];clear hu;rcases sign_yes hsg with rfl|⟨h0,n1,n2,n3,h45⟩|⟨h0,n1,n2,n3,h45,h43⟩
  ·clear hsg;go_enter Tryz.func59,Tryz.ntmps59;go_wp2
   go_ret3
   exact ⟨false,rfl,Gr.refl _⟩
  ·clear hsg;go_enter Tryz.func59,Tryz.ntmps59;go_wp2
   go_ret3
   exact ⟨false,rfl,Gr.refl _⟩
  ·clear hsg;go_enter Tryz.func59,Tryz.ntmps59;go_wp2
   go_ret3
   exact ⟨false,rfl,Gr.refl _⟩
 case false=>
  obtain ⟨h0,h45,h43,n1,n2,n3⟩:=sign_no hsg;have hw:=whole_plain hsg;have HW:=Lib.hid (dec_Whole s hs);have HI:=Lib.hid (span_Interval s hs hsg);have hU:unsS s.data.toList=match wholeN s.data.toList with|some n=>some (n,false)|none=>(intvS s.data.toList).map λn=>(n,true):=by unfold unsS;rw[hsg];rfl
  cases hn:wholeN s.data.toList with
  | some n=>
   rw[hn] at hw hU;rw[hw] at HW;rw[hU];clear hw hU hn hsg HI;go_enter Tryz.func59,Tryz.ntmps59;go_wp2_with (first|(go_at_call 92;refine (HW.out _).mono ?_;rintro e w1 ⟨rfl,rfl⟩)|(go_at_call 93;refine (HI.out _).mono ?_;rintro e w2 ⟨rfl,g2⟩))
   go_ret3
   exact ⟨rfl,Gr.refl _⟩
  | none=>
   rw[hn] at hw hU;rw[hw] at HW;cases hi:intvS s.data.toList with
   | some n=>
    rw[hi] at HI hU;rw[hU];clear hw hU hn hsg hi;go_enter Tryz.func59,Tryz.ntmps59;go_wp2_with (first|(go_at_call 92;refine (HW.out _).mono ?_;rintro e w1 ⟨rfl,rfl⟩)|(go_at_call 93;refine (HI.out _).mono ?_;rintro e w2 ⟨rfl,g2⟩))
    go_ret3
    exact ⟨rfl,g2⟩
   | none=>
    rw[hi] at HI hU;rw[hU];clear hw hU hn hsg hi;go_enter Tryz.func59,Tryz.ntmps59;go_wp2_with (first|(go_at_call 92;refine (HW.out _).mono ?_;rintro e w1 ⟨rfl,rfl⟩)|(go_at_call 93;refine (HI.out _).mono ?_;rintro e w2 ⟨rfl,g2⟩))
    go_ret3
    exact ⟨true,rfl,g2⟩
theorem ref_plain (s:ByteArray) (hs:(s.size:Int)<=4096) (w:World):Calls Tryz.prog 65 #[.string s] w (RetU (unsS s.data.toList) w):=by
 cases hsg:signB s.data.toList;case true=>
  have hu:unsS s.data.toList=none:=by unfold unsS;rw[hsg];rfl
  rw[hu];clear hu;rcases sign_yes hsg with rfl|⟨h0,n1,n2,n3,h45⟩|⟨h0,n1,n2,n3,h45,h43⟩
  ·clear hsg;go_enter Tryz.func65,Tryz.ntmps65;go_wp2
   go_ret3
   exact ⟨false,rfl,Gr.refl _⟩
  ·clear hsg;go_enter Tryz.func65,Tryz.ntmps65;go_wp2
   go_ret3
   exact ⟨false,rfl,Gr.refl _⟩
  ·clear hsg;go_enter Tryz.func65,Tryz.ntmps65;go_wp2
   go_ret3
   exact ⟨false,rfl,Gr.refl _⟩
 case false=>
  obtain ⟨h0,h45,h43,n1,n2,n3⟩:=sign_no hsg;have hw:=whole_plain hsg;have HW:=Lib.hid (ref2_Whole s hs);have HI:=Lib.hid (ref_Interval s hs hsg);have hU:unsS s.data.toList=match wholeN s.data.toList with|some n=>some (n,false)|none=>(intvS s.data.toList).map λn=>(n,true):=by unfold unsS;rw[hsg];rfl
  cases hn:wholeN s.data.toList with
  | some n=>
   rw[hn] at hw hU;rw[hw] at HW;rw[hU];clear hw hU hn hsg HI;go_enter Tryz.func65,Tryz.ntmps65;go_wp2_with (first|(go_at_call 98;refine (HW.out _).mono ?_;rintro e w1 ⟨rfl,rfl⟩)|(go_at_call 99;refine (HI.out _).mono ?_;rintro e w2 ⟨rfl,g2⟩))
   go_ret3
   exact ⟨rfl,Gr.refl _⟩
  | none=>
   rw[hn] at hw hU;rw[hw] at HW;cases hi:intvS s.data.toList with
   | some n=>
    rw[hi] at HI hU;rw[hU];clear hw hU hn hsg hi;go_enter Tryz.func65,Tryz.ntmps65;go_wp2_with (first|(go_at_call 98;refine (HW.out _).mono ?_;rintro e w1 ⟨rfl,rfl⟩)|(go_at_call 99;refine (HI.out _).mono ?_;rintro e w2 ⟨rfl,g2⟩))
    go_ret3
    exact ⟨rfl,g2⟩
   | none=>
    rw[hi] at HI hU;rw[hU];clear hw hU hn hsg hi;go_enter Tryz.func65,Tryz.ntmps65;go_wp2_with (first|(go_at_call 98;refine (HW.out _).mono ?_;rintro e w1 ⟨rfl,rfl⟩)|(go_at_call 99;refine (HI.out _).mono ?_;rintro e w2 ⟨rfl,g2⟩))
    go_ret3
    exact ⟨true,rfl,g2⟩
theorem index_one (c:UInt8):∀l:List UInt8,match cutS c l with
  | some (a,b)=>Lib.index l [c]=a.length/\l=a++c::b
  | none=>Lib.index l [c]= -1
 | []=>rfl
 | x::r=>by
  have ih:=index_one c r;unfold cutS Lib.index;cases hx:(x==c)
  ·have hx':(c==x)=false:=by rw[beq_eq_false_iff_ne] at hx ⊢;exact λe=>hx e.symm
   have hp:([c]:List UInt8).isPrefixOf (x::r)=false:=by simp[List.isPrefixOf,hx']
   rw[hp];cases hr:cutS c r with
   | none=>
    rw[hr] at ih;simp only at ih;simp[ih]
   | some p=>
    rw[hr] at ih;simp only at ih;obtain ⟨i1,i2⟩:=ih;simp only[cond_false,Option.map_some,List.length_cons,List.cons_append];rw[i1];refine ⟨?_,by rw[<-i2]⟩;simp only[Bool.false_eq_true,if_false];have:((p.1.length:Int) == -1)=false:=by rw[beq_eq_false_iff_ne];omega
    rw[this];simp
  ·have hx':x=c:=by simpa using hx
   subst hx';simp[List.isPrefixOf]
theorem lib_cut (c:UInt8) (l:List UInt8):Lib.cut l [c]=match cutS c l with|some (a,b)=>(a,b,true)|none=>(l,[],false):=by
 have h:=index_one c l;unfold Lib.cut;cases hc:cutS c l with
 | none=>
  rw[hc] at h;simp only at h;rw[h];simp
 | some p=>
  rw[hc] at h;simp only at h;obtain ⟨h1,h2⟩:=h;rw[h1,if_pos (by omega)];simp only[Int.toNat_natCast,List.length_singleton]
  conv=>lhs;rw[h2]
  rw[List.take_left]
  congr 2
  rw[show p.1++c::p.2=(p.1++[c])++p.2 by simp,show p.1.length+1=(p.1++[c]).length by simp,List.drop_left]
theorem cutS_len {c:UInt8} {l a b:List UInt8} (h:cutS c l=some (a,b)):a.length+b.length+1=l.length:=by
 have:=index_one c l;rw[h] at this;simp only at this;have:=congrArg List.length this.2;simp at this;omega
def Ml (w:World):Prop:=∃m:Int,w.cell? ⟨0,0,none⟩=some (.int .i64 m)
theorem Ml.gr {w w':World} (h:Ml w) (g:Gr w w'):Ml w':=by
 obtain ⟨m,h⟩:=h;exact ⟨m,(Below.cell g (World.block_lt_of_cell? _ _ h)).trans h⟩
theorem cut_any (s A B:ByteArray) (ok:Bool) (hs:(s.size:Int)<=4096) (h:Lib.cut s.data.toList [58]=(A.data.toList,B.data.toList,ok)) (w:World) (hm:Ml w):Calls Tryz.prog 58 #[.string s, .string ⟨#[58]⟩] w λe w'=>e= .returned (.tuple #[.string A, .string B, .bool ok])/\Gr w w':=by
 obtain ⟨m,hm⟩:=hm;refine (Tryz.strings_Cut s ⟨#[58]⟩ m w (by omega) hm).mono ?_;rintro e w' ⟨rfl,n,rfl⟩;have e2:(⟨#[58]⟩:ByteArray).data.toList=[58]:=rfl;rw[e2,h];exact ⟨rfl,Gr.drewN' (Gr.refl w) n⟩
def RetA:Option (Nat×Nat)->World->Ending->World->Prop
 | some (a,n),w,e,w'=>e= .returned (.tuple #[.agg #[.int .i64 (a:Nat), .int .i64 (n:Nat)], .bool true])/\Gr w w'
 | none,w,e,w'=>e= .returned (.tuple #[.agg #[.int .i64 0, .int .i64 0], .bool false])/\Gr w w'
theorem arch_of {l:List UInt8}:archS l=match cutS 58 l with
  | none=>none
  | some (a,b)=>match unsS a,unsS b with
   | some (step,_),some (n,long)=>bif step==0 then none else some (step,bif long then n/step else n)
   | _,_=>none:=rfl
theorem rules_archive (s:ByteArray) (hs:(s.size:Int)<=4096) (w:World) (hm:Ml w):Calls Tryz.prog 38 #[.string s] w (RetA (archS s.data.toList) w):=by
 obtain ⟨A,B,ok,hcut,hAs,hBs,hx⟩:∃A B:ByteArray,∃ok:Bool,Lib.cut s.data.toList [58]=(A.data.toList,B.data.toList,ok)/\(A.size:Int)<=4096/\(B.size:Int)<=4096/\archS s.data.toList=bif ok then (match unsS A.data.toList,unsS B.data.toList with
   | some (step,_),some (n,long)=>bif step==0 then none else some (step,bif long then n/step else n)
   | _,_=>none) else none:=by
  have h1:=lib_cut 58 s.data.toList;cases hc:cutS 58 s.data.toList with
  | none=>exact ⟨s,⟨#[]⟩,false,by rw[h1,hc],hs,by decide,by rw[arch_of,hc];rfl⟩
  | some p=>
   have hl:=cutS_len (show cutS 58 s.data.toList=some (p.1,p.2) by rw[hc]);have hss:s.data.toList.length=s.size:=by simp
   exact ⟨⟨p.1.toArray⟩,⟨p.2.toArray⟩,true,by rw[h1,hc],by show ((p.1.toArray.size:Nat):Int)<=4096;rw[List.size_toArray];omega,by show ((p.2.toArray.size:Nat):Int)<=4096;rw[List.size_toArray];omega,by rw[arch_of,hc];rfl⟩
 rw[hx];have HC:=Lib.hid (λw=>cut_any s A B ok hs hcut w);have HA:=Lib.hid (rules_unsigned A hAs);have HB:=Lib.hid (rules_unsigned B hBs);have hlA:=λn b (h:unsS A.data.toList=some (n,b))=>unsS_le h;have hlB:=λn b (h:unsS B.data.toList=some (n,b))=>unsS_le h;clear hcut hAs hBs hx;obtain ⟨V,hV⟩:∃V,V=w.alloc (.cells #[.int .i64 0, .int .i64 0] 34):=⟨_,rfl⟩
 have gV:Gr w V:=by rw[hV];exact Gr.alloc (Gr.refl w) _
 have hz:w.heap.size<V.heap.size:=by rw[hV];simp
 have c0:V.cell? ⟨w.heap.size,0,none⟩=some (.int .i64 0):=by rw[hV];go_simp
 have c1:V.cell? ⟨w.heap.size,1,none⟩=some (.int .i64 0):=by rw[hV];go_simp
 have f0:V.frozen? ⟨w.heap.size,0,none⟩=false:=by rw[hV];go_simp
 have f1:V.frozen? ⟨w.heap.size,1,none⟩=false:=by rw[hV];go_simp
 have HV:=Lib.hid (And.intro gV (And.intro hz (And.intro c0 (And.intro c1 (And.intro f0 (And.intro f1 (hm.gr gV)))))));have HVe:=Lib.hid hV;clear gV hz c0 c1 f0 f1 hm hV;cases ok with
 | false=>
  simp only[cond_false];clear hlA hlB;go_enter Tryz.func38,Tryz.ntmps38;go_upto_region 1 with (fail)
  rw[<-HVe.out];go_upto_region 2 with (go_at_call 58;refine (HC.out _ HV.out.2.2.2.2.2.2).mono ?_;rintro e w1 ⟨rfl,g1⟩)
  go_upto_region 3 with (go_at_call 59;refine (HA.out _).mono ?_;rintro e w2 h2;obtain ⟨n2,b2,o2,rfl,g2⟩:=h2.weak;clear h2)
  go_upto_region 4 with (go_at_call 59;refine (HB.out _).mono ?_;rintro e w3 h3;obtain ⟨n3,b3,o3,rfl,g3⟩:=h3.weak;clear h3)
  have G9:=Lib.hid (((HV.out.1.trans g1).trans g2).trans g3);have hV3:=(g1.trans g2).trans g3;have hz3:w.heap.size<w3.heap.size:=Nat.lt_of_lt_of_le HV.out.2.1 hV3.size;have c0:=bc hV3 HV.out.2.1 HV.out.2.2.1;have c1:=bc hV3 HV.out.2.1 HV.out.2.2.2.1;have f0:=bf hV3 HV.out.2.1 HV.out.2.2.2.2.1;have f1:=bf hV3 HV.out.2.1 HV.out.2.2.2.2.2.1;clear hV3 g1 g2 g3 HV HVe HC HA HB;go_wp2;refine bodyPost_ret (v:= .tuple #[.agg #[.int .i64 0, .int .i64 0], .bool false]) (by simp[results,Tryz.results38,go_sem, *]) rfl ?_;exact ⟨rfl,(G9.out.setCell (by simp) _).setCell (by simp) _⟩
 | true=>
  simp only[cond_true];cases hA:unsS A.data.toList with
  | none=>
   rw[hA] at HA;simp only;clear hlA hlB hA;go_enter Tryz.func38,Tryz.ntmps38;go_upto_region 1 with (fail)
   rw[<-HVe.out];go_upto_region 2 with (go_at_call 58;refine (HC.out _ HV.out.2.2.2.2.2.2).mono ?_;rintro e w1 ⟨rfl,g1⟩)
   go_upto_region 3 with (go_at_call 59;refine (HA.out _).mono ?_;rintro e w2 h2;obtain ⟨b2,rfl,g2⟩:=h2)
   go_upto_region 4 with (go_at_call 59;refine (HB.out _).mono ?_;rintro e w3 h3;obtain ⟨n3,b3,o3,rfl,g3⟩:=h3.weak;clear h3)
   have G9:=Lib.hid (((HV.out.1.trans g1).trans g2).trans g3);have hV3:=(g1.trans g2).trans g3;have hz3:w.heap.size<w3.heap.size:=Nat.lt_of_lt_of_le HV.out.2.1 hV3.size;have c0:=bc hV3 HV.out.2.1 HV.out.2.2.1;have c1:=bc hV3 HV.out.2.1 HV.out.2.2.2.1;have f0:=bf hV3 HV.out.2.1 HV.out.2.2.2.2.1;have f1:=bf hV3 HV.out.2.1 HV.out.2.2.2.2.2.1;clear hV3 g1 g2 g3 HV HVe HC HA HB;go_wp2;refine bodyPost_ret (v:= .tuple #[.agg #[.int .i64 0, .int .i64 0], .bool false]) (by simp[results,Tryz.results38,go_sem, *]) rfl ?_;exact ⟨rfl,(G9.out.setCell (by simp) _).setCell (by simp) _⟩
  | some pa=>
   obtain ⟨a,ba⟩:=pa;have ha1:=hlA a ba hA;have hai:(a:Int)<=4611686018427387904:=by unfold maxN at ha1;omega
   rw[hA] at HA;clear hA hlA ha1;cases hB:unsS B.data.toList with
   | none=>
    rw[hB] at HB;simp only;clear hlB hB;go_enter Tryz.func38,Tryz.ntmps38;go_upto_region 1 with (fail)
    rw[<-HVe.out];go_upto_region 2 with (go_at_call 58;refine (HC.out _ HV.out.2.2.2.2.2.2).mono ?_;rintro e w1 ⟨rfl,g1⟩)
    go_upto_region 3 with (go_at_call 59;refine (HA.out _).mono ?_;rintro e w2 h2;obtain ⟨rfl,g2⟩:=h2)
    go_upto_region 4 with (go_at_call 59;refine (HB.out _).mono ?_;rintro e w3 h3;obtain ⟨b3,rfl,g3⟩:=h3)
    have G9:=Lib.hid (((HV.out.1.trans g1).trans g2).trans g3);have hV3:=(g1.trans g2).trans g3;have hz3:w.heap.size<w3.heap.size:=Nat.lt_of_lt_of_le HV.out.2.1 hV3.size;have c0:=bc hV3 HV.out.2.1 HV.out.2.2.1;have c1:=bc hV3 HV.out.2.1 HV.out.2.2.2.1;have f0:=bf hV3 HV.out.2.1 HV.out.2.2.2.2.1;have f1:=bf hV3 HV.out.2.1 HV.out.2.2.2.2.2.1;clear hV3 g1 g2 g3 HV HVe HC HA HB;go_wp2;refine bodyPost_ret (v:= .tuple #[.agg #[.int .i64 0, .int .i64 0], .bool false]) (by simp[results,Tryz.results38,go_sem, *]) rfl ?_;exact ⟨rfl,(G9.out.setCell (by simp) _).setCell (by simp) _⟩
   | some pb=>
    obtain ⟨n,long⟩:=pb;have hb1:=hlB n long hB;have hbi:(n:Int)<=4611686018427387904:=by unfold maxN at hb1;omega
    rw[hB] at HB;simp only;clear hlB hB hb1;by_cases h0:a=0
    ·subst h0;simp only[beq_self_eq_true,cond_true];go_enter Tryz.func38,Tryz.ntmps38;go_upto_region 1 with (fail)
     rw[<-HVe.out];go_upto_region 2 with (go_at_call 58;refine (HC.out _ HV.out.2.2.2.2.2.2).mono ?_;rintro e w1 ⟨rfl,g1⟩)
     go_upto_region 3 with (go_at_call 59;refine (HA.out _).mono ?_;rintro e w2 h2;obtain ⟨rfl,g2⟩:=h2)
     go_upto_region 4 with (go_at_call 59;refine (HB.out _).mono ?_;rintro e w3 h3;obtain ⟨rfl,g3⟩:=h3)
     have G9:=Lib.hid (((HV.out.1.trans g1).trans g2).trans g3);have hV3:=(g1.trans g2).trans g3;have hz3:w.heap.size<w3.heap.size:=Nat.lt_of_lt_of_le HV.out.2.1 hV3.size;have c0:=bc hV3 HV.out.2.1 HV.out.2.2.1;have c1:=bc hV3 HV.out.2.1 HV.out.2.2.2.1;have f0:=bf hV3 HV.out.2.1 HV.out.2.2.2.2.1;have f1:=bf hV3 HV.out.2.1 HV.out.2.2.2.2.2.1;clear hV3 g1 g2 g3 HV HVe HC HA HB;go_wp2;refine bodyPost_ret (v:= .tuple #[.agg #[.int .i64 0, .int .i64 0], .bool false]) (by simp[results,Tryz.results38,go_sem, *]) rfl ?_;exact ⟨rfl,(G9.out.setCell (by simp) _).setCell (by simp) _⟩
    ·have hne:(a==0)=false:=beq_eq_false_iff_ne.2 h0;have hal:¬(a:Int)<1:=by omega
     have ha0:¬(a:Int)=0:=by omega
     have ha0':((a:Int)==0)=false:=beq_eq_false_iff_ne.2 ha0;simp only[hne,cond_false];clear hne h0;cases long with
     | false=>
      simp only[cond_false];go_enter Tryz.func38,Tryz.ntmps38;go_upto_region 1 with (fail)
      rw[<-HVe.out];go_upto_region 2 with (go_at_call 58;refine (HC.out _ HV.out.2.2.2.2.2.2).mono ?_;rintro e w1 ⟨rfl,g1⟩)
      go_upto_region 3 with (go_at_call 59;refine (HA.out _).mono ?_;rintro e w2 h2;obtain ⟨rfl,g2⟩:=h2)
      go_upto_region 4 with (go_at_call 59;refine (HB.out _).mono ?_;rintro e w3 h3;obtain ⟨rfl,g3⟩:=h3)
      have G9:=Lib.hid (((HV.out.1.trans g1).trans g2).trans g3);have hV3:=(g1.trans g2).trans g3;have hz3:w.heap.size<w3.heap.size:=Nat.lt_of_lt_of_le HV.out.2.1 hV3.size;have c0:=bc hV3 HV.out.2.1 HV.out.2.2.1;have c1:=bc hV3 HV.out.2.1 HV.out.2.2.2.1;have f0:=bf hV3 HV.out.2.1 HV.out.2.2.2.2.1;have f1:=bf hV3 HV.out.2.1 HV.out.2.2.2.2.2.1;clear hV3 g1 g2 g3 HV HVe HC HA HB;go_wp2;refine bodyPost_ret (v:= .tuple #[.agg #[.int .i64 (a:Nat), .int .i64 (n:Nat)], .bool true]) (by simp[results,Tryz.results38,go_sem, *]) rfl ?_;exact ⟨rfl,(G9.out.setCell (by simp) _).setCell (by simp) _⟩
     | true=>
      simp only[cond_true];have hwd:wrap64 ((n:Int)/(a:Int))=(n:Int)/(a:Int):=by
       have h1:=Nat.div_le_self n a;rw[<-Int.natCast_ediv];generalize n/a=q at *;exact IntWalk.wrap64_in (q:Int) (by omega)
      go_enter Tryz.func38,Tryz.ntmps38;go_upto_region 1 with (fail)
      rw[<-HVe.out];go_upto_region 2 with (go_at_call 58;refine (HC.out _ HV.out.2.2.2.2.2.2).mono ?_;rintro e w1 ⟨rfl,g1⟩)
      go_upto_region 3 with (go_at_call 59;refine (HA.out _).mono ?_;rintro e w2 h2;obtain ⟨rfl,g2⟩:=h2)
      go_upto_region 4 with (go_at_call 59;refine (HB.out _).mono ?_;rintro e w3 h3;obtain ⟨rfl,g3⟩:=h3)
      have G9:=Lib.hid (((HV.out.1.trans g1).trans g2).trans g3);have hV3:=(g1.trans g2).trans g3;have hz3:w.heap.size<w3.heap.size:=Nat.lt_of_lt_of_le HV.out.2.1 hV3.size;have c0:=bc hV3 HV.out.2.1 HV.out.2.2.1;have c1:=bc hV3 HV.out.2.1 HV.out.2.2.2.1;have f0:=bf hV3 HV.out.2.1 HV.out.2.2.2.2.1;have f1:=bf hV3 HV.out.2.1 HV.out.2.2.2.2.2.1;clear hV3 g1 g2 g3 HV HVe HC HA HB;go_wp2;refine bodyPost_ret (v:= .tuple #[.agg #[.int .i64 (a:Nat), .int .i64 ((n/a:Nat):Nat)], .bool true]) (by simp[results,Tryz.results38,go_sem, *]) rfl ?_;exact ⟨rfl,(G9.out.setCell (by simp) _).setCell (by simp) _⟩
end Go.Proofs.YtjapddfnpmlifaaGreatDoor
