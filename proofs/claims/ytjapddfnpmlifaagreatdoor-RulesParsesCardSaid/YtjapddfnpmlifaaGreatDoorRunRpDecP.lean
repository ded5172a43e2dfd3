import Derived.Test.YtjapddfnpmlifaaGreatDoorRunRpSame
import Derived.Test.YtjapddfnpmlifaaGreatDoorRunRuIntv
import Derived.Test.YtjapddfnpmlifaaGreatDoorRunRuFit
import Derived.Test.YtjapddfnpmlifaaGreatDoorRunFxBase
import Derived.Test.YtjapddfnpmlifaaGreatDoorRpShelf
set_option linter.all false
set_option maxRecDepth 1000000
set_option maxHeartbeats 12800000
namespace Go.Proofs.YtjapddfnpmlifaaGreatDoor
open Go.RowKit
def valT:Option Int->Value
 | none=> .agg #[.bool false, .int .i64 0]
 | some n=> .agg #[.bool true, .int .i64 n]
def RetVl (x:Option Int) (w:World) (e:Ending) (w':World):Prop:=e= .returned (.tuple #[valT x, .bool x.isSome])/\Gr w w'
theorem RetVl.none' {x:Option Int} {w w':World} (h:x=none) (g:Gr w w'):RetVl x w (.returned (.tuple #[.agg #[.bool false, .int .i64 0], .bool false])) w':=by subst h;exact ⟨rfl,g⟩
theorem RetVl.some' {x:Option Int} {n:Int} {w w':World} (h:x=some n) (g:Gr w w'):RetVl x w (.returned (.tuple #[.agg #[.bool true, .int .i64 n], .bool true])) w':=by subst h;exact ⟨rfl,g⟩
theorem cut46 (s A B:ByteArray) (ok:Bool) (hs:(s.size:Int)<=4096) (h:Lib.cut s.data.toList [46]=(A.data.toList,B.data.toList,ok)) (w:World) (hm:Ml w):Calls Tryz.prog 58 #[.string s, .string ⟨#[46]⟩] w λe w'=>e= .returned (.tuple #[.string A, .string B, .bool ok])/\Gr w w':=by
 obtain ⟨m,hm⟩:=hm;refine (Tryz.strings_Cut s ⟨#[46]⟩ m w (by omega) hm).mono ?_;rintro e w' ⟨rfl,n,rfl⟩;have e2:(⟨#[46]⟩:ByteArray).data.toList=[46]:=rfl;rw[e2,h];exact ⟨rfl,Gr.drewN' (Gr.refl w) n⟩
theorem rep_zero:∀k,Lib.repeatL [48] k=List.replicate k 48
 | 0=>rfl
 | k+1=>by rw[Lib.repeatL,rep_zero k,List.replicate_succ];rfl
theorem sign_cases (s:ByteArray):s=⟨#[]⟩\/∃h0:(0:Int)<(s.size:Int),(s.toList.isEmpty=false/\s.data.toList.isEmpty=false/\(s.toList==[])=false)/\
  (
   ((((s[0]'(by omega)).toNat:Int)==45)=true/\minusS s.data.toList=true/\bareS s.data.toList=s.data.toList.drop 1)\/
   ((((s[0]'(by omega)).toNat:Int)==45)=false/\(((s[0]'(by omega)).toNat:Int)==43)=true/\plusS s.data.toList=true/\minusS s.data.toList=false/\bareS s.data.toList=s.data.toList.drop 1)\/
   ((((s[0]'(by omega)).toNat:Int)==45)=false/\(((s[0]'(by omega)).toNat:Int)==43)=false/\plusS s.data.toList=false/\minusS s.data.toList=false/\bareS s.data.toList=s.data.toList)):=by
 rcases Nat.eq_zero_or_pos s.size with e|h0
 ·left;apply ByteArray.ext;apply Array.eq_empty_of_size_eq_zero;exact e
 ·right;have hl:0<s.data.toList.length:=by simpa using h0
  have hc:s.data.toList=s[0]::s.data.toList.drop 1:=by
   have:=List.drop_eq_getElem_cons hl
   rwa [List.drop_zero] at this
  have key:∀n:UInt8,((s[0].toNat:Int)==(n.toNat:Int))=(s[0]==n):=λn=>by
   rw[Bool.eq_iff_iff,beq_iff_eq,beq_iff_eq,<-UInt8.toNat_inj];omega
  have k45:=key 45;have k43:=key 43;refine ⟨by omega,⟨by rw[toList_data_ru,List.isEmpty_eq_false_iff];exact ne_nil (by omega),by rw[List.isEmpty_eq_false_iff];exact ne_nil (by omega),by rw[toList_data_ru,beq_eq_false_iff_ne];exact ne_nil (by omega)⟩,?_⟩;have hm:minusS s.data.toList=(s[0]==45):=by rw[hc];rfl
  have hp:plusS s.data.toList=(s[0]==43):=by rw[hc];rfl
  rw[show (((s[0]'(by omega)).toNat:Int)==45)=(s[0]==45) from k45,show (((s[0]'(by omega)).toNat:Int)==43)=(s[0]==43) from k43];unfold bareS;rw[hm,hp];cases (s[0]==45)<;>cases (s[0]==43)<;>simp
theorem ext_tail (s T:ByteArray) (h:T.data.toList=s.data.toList.drop 1):T=s.extract 1 s.size:=by
 rw[ext_eq];apply ByteArray.ext;apply Array.ext';rw[h,List.take_of_length_le (by simp)]
theorem ext_six (s P:ByteArray) (h:P.data.toList=s.data.toList.take 6):P=s.extract 0 6:=by
 rw[ext_eq];apply ByteArray.ext;apply Array.ext';rw[h];rfl
theorem not_t {x:Bool} (h:true= !x):x=false:=by cases x<;>simp_all
theorem not_f {x:Bool} (h:false= !x):x=true:=by cases x<;>simp_all
theorem cut_parts (T:ByteArray) (hT:(T.size:Int)<=4000):∃(A B:ByteArray) (d:Bool),Lib.cut T.data.toList [46]=(A.data.toList,B.data.toList,d)/\(A.size:Int)<=4000/\(B.size:Int)<=4000/\
  absD T.data.toList=(bif allDg A.data.toList&&(!d||allDg B.data.toList) then some (valD A.data.toList 0*1000000+fracD B.data.toList) else none)/\(d=false->B.data.toList=[]):=by
 have h1:=lib_cut 46 T.data.toList;have hz:T.data.toList.length=T.size:=by simp
 cases hc:cutS 46 T.data.toList with
 | none=>exact ⟨T,⟨#[]⟩,false,by rw[h1,hc],hT,by decide,by rw[abs_none hc];show _=(bif allDg T.data.toList&&true then some (_+fracD []) else none);rw[frac_nil,Bool.and_true,Nat.add_zero],λ_=>rfl⟩
 | some p=>
  have hl:=cutS_len (show cutS 46 T.data.toList=some (p.1,p.2) by rw[hc]);exact ⟨⟨p.1.toArray⟩,⟨p.2.toArray⟩,true,by rw[h1,hc],by show ((p.1.toArray.size:Nat):Int)<=4000;rw[List.size_toArray];omega,by show ((p.2.toArray.size:Nat):Int)<=4000;rw[List.size_toArray];omega,by rw[abs_cut (show cutS 46 T.data.toList=some (p.1,p.2) by rw[hc])];rfl,λh=>by cases h⟩
theorem dparse_any (s:ByteArray) (hs:(s.size:Int)<=4000) (w:World) (hm:Ml w):Calls Tryz.prog 53 #[.string s] w (RetVl (decV s.data.toList) w):=by
 obtain ⟨T,hT⟩:∃T:ByteArray,T.data.toList=bareS s.data.toList:=⟨⟨(bareS s.data.toList).toArray⟩,rfl⟩
 obtain ⟨mn,hmn⟩:∃mn,mn=minusS s.data.toList:=⟨_,rfl⟩
 obtain ⟨sg,hsg⟩:∃sg:Int,sg=bif mn then -1 else 1:=⟨_,rfl⟩
 have hTs:(T.size:Int)<=4000:=by
  have h1:T.size=(bareS s.data.toList).length:=by rw[<-hT];simp
  have h2:(bareS s.data.toList).length<=s.data.toList.length:=by unfold bareS;cases (minusS s.data.toList||plusS s.data.toList)<;>simp
  have h3:s.data.toList.length=s.size:=by simp
  omega
 obtain ⟨A,B,d,hcut,hAs,hBs,habs,hdB⟩:=cut_parts T hTs;have HDV:Hid (decV s.data.toList=match absD T.data.toList with|none=>none|some n=>bif Nat.ble n maxN then some (bif mn then -(n:Int) else (n:Int)) else none):=Lib.hid (by rw[hT,hmn];rfl);rw[habs] at HDV;obtain ⟨V,hV⟩:∃V,V=w.alloc (.cells #[.bool false, .int .i64 0] 104):=⟨_,rfl⟩
 have gV:Gr w V:=by rw[hV];exact Gr.alloc (Gr.refl w) _
 have v0:V.cell? ⟨w.heap.size,0,none⟩=some (.bool false):=by rw[hV];go_simp
 have v1:V.cell? ⟨w.heap.size,1,none⟩=some (.int .i64 0):=by rw[hV];go_simp
 have u0:V.frozen? ⟨w.heap.size,0,none⟩=false:=by rw[hV];go_simp
 have u1:V.frozen? ⟨w.heap.size,1,none⟩=false:=by rw[hV];go_simp
 have hzV:w.heap.size<V.heap.size:=by rw[hV];simp
 have HV:=Lib.hid hV;have GV:=Lib.hid gV;have HC:=Lib.hid (cut46 T A B d (by omega) hcut V (hm.gr gV));have HT:=Lib.hid hT;have HSg:=Lib.hid hsg;have HMn:=Lib.hid hmn;have HdB:=Lib.hid hdB;clear hcut habs hT hV gV hm hsg hmn hdB;go_enter Tryz.func53,Tryz.ntmps53;go_upto_region 2 with (fail)
 rw[<-HV.out];clear HV;have HSC:=Lib.hid (sign_cases s)
 go_cut [22] from 11 to 22 (λp wx=>V=wx/\∃b,p= .bool b/\Hid (b=(mn||plusS s.data.toList)))
 case first=>
  rcases HSC.out with rfl|⟨h0,⟨n1,n2,n3⟩,⟨a1,a2⟩|⟨a1,a2,a3⟩|⟨a1,a2,a3⟩⟩
  ·go_wp2;go_meet;exact ⟨rfl,_,rfl,Lib.hid (by rw[HMn.out];rfl)⟩
  ·have A2:=Lib.hid a2;clear a2;go_wp2;go_meet;exact ⟨rfl,_,rfl,Lib.hid (by rw[HMn.out,A2.out.1];rfl)⟩
  ·have A3:=Lib.hid a3;clear a3;go_wp2;go_meet;exact ⟨rfl,_,rfl,Lib.hid (by rw[A3.out.1];simp)⟩
  ·have A3:=Lib.hid a3;clear a3;go_wp2;go_meet;exact ⟨rfl,_,rfl,Lib.hid (by rw[HMn.out,A3.out.1,A3.out.2.1];rfl)⟩
 case rest=>
  obtain ⟨rfl,b,rfl,HBB⟩:=hcut;go_upto_if 22 with (fail)
  go_cut [0,4] from 23 to 28 (λp q wx=>V=wx/\p= .string T/\q= .int .i64 sg)
  case first=>
   rcases HSC.out with rfl|⟨h0, -,⟨a1,a2⟩|⟨a1,a2,a3⟩|⟨a1,a2,a3⟩⟩
   ·obtain rfl:T=⟨#[]⟩:=by apply ByteArray.ext;apply Array.ext';rw[HT.out];rfl
    obtain rfl:sg=1:=by rw[HSg.out,HMn.out];rfl
    obtain rfl:b=false:=by rw[HBB.out,HMn.out];rfl
    go_wp2;go_meet;exact ⟨rfl,rfl,rfl⟩
   ·obtain rfl:T=s.extract 1 s.size:=ext_tail s T (by rw[HT.out,a2.2]);obtain rfl:b=true:=by rw[HBB.out,HMn.out,a2.1];rfl
    obtain rfl:sg= -1:=by rw[HSg.out,HMn.out,a2.1];rfl
    clear a2;go_wp2;go_meet;exact ⟨rfl,rfl,rfl⟩
   ·obtain rfl:T=s.extract 1 s.size:=ext_tail s T (by rw[HT.out,a3.2.2]);obtain rfl:b=true:=by rw[HBB.out,a3.1];simp
    obtain rfl:sg=1:=by rw[HSg.out,HMn.out,a3.2.1];rfl
    clear a2 a3;go_wp2;go_meet;exact ⟨rfl,rfl,rfl⟩
   ·obtain rfl:T=s:=by apply ByteArray.ext;apply Array.ext';rw[HT.out,a3.2.2]
    obtain rfl:b=false:=by rw[HBB.out,a3.1,HMn.out,a3.2.1];rfl
    obtain rfl:sg=1:=by rw[HSg.out,HMn.out,a3.2.1];rfl
    clear a2 a3;go_wp2;go_meet;exact ⟨rfl,rfl,rfl⟩
  case rest=>
   obtain ⟨rfl,rfl,rfl⟩:=hcut;go_upto_region 7 with (go_at_call 58;refine HC.out.mono ?_;rintro e w1 ⟨rfl,g1⟩)
   replace v0:=bc g1 hzV v0;replace v1:=bc g1 hzV v1;replace u0:=bf g1 hzV u0;replace u1:=bf g1 hzV u1;have G1:=Lib.hid (GV.out.trans g1);have hz1:w.heap.size<w1.heap.size:=Nat.lt_of_lt_of_le hzV g1.size;obtain ⟨DA,hDA⟩:∃b,b=allDg A.data.toList:=⟨_,rfl⟩
   obtain ⟨DB,hDB⟩:∃b,b=allDg B.data.toList:=⟨_,rfl⟩
   have hAs4:(A.size:Int)<=4096:=by omega
   have hBs4:(B.size:Int)<=4096:=by omega
   have HA:=Lib.hid (λw=>dec_all A hAs4 w);have HB:=Lib.hid (λw=>dec_all B hBs4 w);rw[<-hDA] at HA HDV;rw[<-hDB] at HB HDV;have HDA:=Lib.hid (And.intro hDA hDB);clear g1 hDA hDB HC hzV
   go_cut [44] from 34 to 45 (λp wx=>w1=wx/\∃b,p= .bool b/\Hid (b= !(DA&&(!d||DB))))
   case first=>
    cases DA
    ·go_wp2_with (go_at_call 84;refine (HA.out _).mono ?_;rintro e w3 ⟨rfl,rfl⟩);go_meet;exact ⟨rfl,_,rfl,Lib.hid rfl⟩
    cases d
    ·go_wp2_with (go_at_call 84;refine (HA.out _).mono ?_;rintro e w3 ⟨rfl,rfl⟩);go_meet;exact ⟨rfl,_,rfl,Lib.hid rfl⟩
    cases DB
    ·go_wp2_with (go_at_call 84;refine (dec_all _ (by assumption) _).mono ?_;rintro e w3 ⟨rfl,rfl⟩;first|rw[<-HDA.out.1]|rw[<-HDA.out.2]);go_meet;exact ⟨rfl,_,rfl,Lib.hid rfl⟩
    ·go_wp2_with (go_at_call 84;refine (dec_all _ (by assumption) _).mono ?_;rintro e w3 ⟨rfl,rfl⟩;first|rw[<-HDA.out.1]|rw[<-HDA.out.2]);go_meet;exact ⟨rfl,_,rfl,Lib.hid rfl⟩
   case rest=>
    obtain ⟨rfl,b2,rfl,HB2⟩:=hcut;cases b2;rotate_left
    ·have HN:Hid (decV s.data.toList=none):=Lib.hid (by
      rw[HDV.out,not_t HB2.out];rfl)
     go_wp2;refine bodyPost_ret (v:= .tuple #[.agg #[.bool false, .int .i64 0], .bool false]) (by simp[results,Tryz.results53,go_sem, *]) rfl ?_;exact RetVl.none' HN.out (by have:=G1.out;exact gq)
    have HOK:Hid ((DA&&(!d||DB))=true):=Lib.hid (not_f HB2.out);clear HB2 HA HB;have HAd:Hid (A.data.toList.all isDg=true/\B.data.toList.all isDg=true):=Lib.hid (by
     have h:=HOK.out;rw[Bool.and_eq_true] at h;refine ⟨allDg_all (by rw[<-HDA.out.1];exact h.1),?_⟩;cases hd:d
     ·rw[HdB.out hd];rfl
     ·rw[hd] at h;exact allDg_all (by rw[<-HDA.out.2];simpa using h.2))
    rw[HOK.out] at HDV;have HDQ:Hid (decV s.data.toList=signV mn (progD A.data.toList B.data.toList)):=Lib.hid (by
     rw[HDV.out,prog_val HAd.out.1 HAd.out.2];simp only[cond_true];unfold capN;cases Nat.ble (valD A.data.toList 0*1000000+fracD B.data.toList) maxN<;>rfl)
    obtain ⟨P,hP⟩:∃P:ByteArray,P.data.toList=B.data.toList.take 6:=⟨⟨(B.data.toList.take 6).toArray⟩,rfl⟩
    obtain ⟨up,hup⟩:∃up,up=upS B.data.toList:=⟨_,rfl⟩
    have HP:=Lib.hid (And.intro hP hup);have hup1:up<=1:=by rw[hup];exact upS_le _
    have hlB:Hid (B.data.toList.length=B.size):=Lib.hid (by simp);have hPz:P.size<=6:=by
     have:P.size=(B.data.toList.take 6).length:=by rw[<-hP];simp
     rw[this,List.length_take];omega
    clear hP hup HOK HDA HdB;go_upto_if 48 with (fail)
    obtain ⟨b6,hb6⟩:∃b6,b6=decide ((6:Int)<(B.size:Int)):=⟨_,rfl⟩
    rw[<-hb6];have HB6:=Lib.hid hb6;clear hb6
    go_cut [6,8] from 49 to 54 (λp q wx=>w1=wx/\p= .string P/\q= .int .i64 (up:Nat))
    case first=>
     by_cases h6:6<B.size
     ·have h6i:(6:Int)<(B.size:Int):=by omega
      obtain rfl:b6=true:=by rw[HB6.out];exact decide_eq_true h6i
      obtain rfl:P=B.extract 0 6:=ext_six B P HP.out.1;have hu:up=bif Nat.ble 53 (B[6]'(by omega)).toNat then 1 else 0:=by
       rw[HP.out.2];unfold upS;rw[ble_of (by rw[hlB.out];omega),Bool.true_and,List.getD_eq_getElem?_getD,List.getElem?_eq_getElem (by rw[hlB.out];exact h6)];rfl
      by_cases h53:53<=(B[6]'(by omega)).toNat
      ·have h53i:(53:Int)<=((B[6]'(by omega)).toNat:Int):=by omega
       obtain rfl:up=1:=by rw[hu,ble_of h53];rfl
       clear hu h53;go_wp2;go_meet;exact ⟨rfl,rfl,rfl⟩
      ·have h53i:¬(53:Int)<=((B[6]'(by omega)).toNat:Int):=by omega
       obtain rfl:up=0:=by rw[hu,ble_not h53];rfl
       clear hu h53;go_wp2;go_meet;exact ⟨rfl,rfl,rfl⟩
     ·have h6i:¬(6:Int)<(B.size:Int):=by omega
      obtain rfl:b6=false:=by rw[HB6.out];exact decide_eq_false h6i
      obtain rfl:P=B:=by
       apply ByteArray.ext;apply Array.ext';rw[HP.out.1,List.take_of_length_le (by rw[hlB.out];omega)]
      obtain rfl:up=0:=by
       rw[HP.out.2];unfold upS;rw[ble_not (by rw[hlB.out];omega)];rfl
      go_wp2;go_meet;exact ⟨rfl,rfl,rfl⟩
    case rest=>
     obtain ⟨rfl,rfl,rfl⟩:=hcut;obtain ⟨Z,hZ⟩:∃Z:ByteArray,Z=⟨(Lib.repeatL (⟨#[48]⟩:ByteArray).data.toList (6-P.size)).toArray⟩:=⟨_,rfl⟩
     have HRp:Hid (∀W,Calls Tryz.prog 86 #[.string ⟨#[48]⟩, .int .i64 (6-(P.size:Int))] W λe w'=>e= .returned (.string Z)/\Gr W w'):=Lib.hid λW=>by
      have:=Tryz.strings_Repeat ⟨#[48]⟩ (6-P.size) W (by omega) (by show 1*(6-P.size)<=_;omega);rw[show ((6-P.size:Nat):Int)=6-(P.size:Int) by omega,<-hZ] at this;exact this
     have hZd:Z.data.toList=List.replicate (6-P.size) 48:=by rw[hZ];exact rep_zero _
     have hZz:Z.size=6-P.size:=by
      have:Z.size=Z.data.toList.length:=by simp
      rw[this,hZd,List.length_replicate]
     have hPi:(P.size:Int)<=6:=by omega
     have hZi:(Z.size:Int)<=6:=by omega
     have hPd:Hid (P.data.toList++Z.data.toList=padS B.data.toList):=Lib.hid (by
      rw[HP.out.1,hZd];unfold padS;rw[List.take_append,List.take_replicate];have:P.size=(B.data.toList.take 6).length:=by rw[<-HP.out.1];simp
      rw[this,List.length_take]
      congr 2
      omega)
     clear hZ hZd;have hwp:wrap64 (6-(P.size:Int))=6-(P.size:Int):=IntWalk.wrap64_in _ (by omega);have HNu:Hid (∀W,Calls Tryz.prog 85 #[.string (A++P++Z)] W (RetN (numS (A.data.toList++padS B.data.toList) 0) W)):=Lib.hid λW=>by
      have e:(A++P++Z).data.toList=A.data.toList++padS B.data.toList:=by rw[<-hPd.out];simp
      have hz:(((A++P++Z).size:Nat):Int)<=4096:=by
       have:(A++P++Z).size=A.size+P.size+Z.size:=by simp
       omega
      have:=dec_number (A++P++Z) hz (by rw[e,List.all_append,HAd.out.1,pad_all HAd.out.2];rfl) W;rw[e] at this;exact this
     have hAll:Hid ((A.data.toList++padS B.data.toList).all isDg=true):=Lib.hid (by rw[List.all_append,HAd.out.1,pad_all HAd.out.2];rfl);cases hn:numS (A.data.toList++padS B.data.toList) 0 with
     | none=>
      have HN:Hid (decV s.data.toList=none):=Lib.hid (by rw[HDQ.out];unfold progD;rw[hn];rfl);rw[hn] at HNu;clear hn;go_wp2_with (first|(go_at_call 86;refine (HRp.out _).mono ?_;rintro e w5 ⟨rfl,g5⟩;have G5:=Lib.hid g5;replace v0:=bc g5 hz1 v0;replace v1:=bc g5 hz1 v1;replace u0:=bf g5 hz1 u0;replace u1:=bf g5 hz1 u1;have hz5:w.heap.size<w5.heap.size:=Nat.lt_of_lt_of_le hz1 g5.size;clear g5)|(go_at_call 85;refine (HNu.out _).mono ?_;rintro e w6 ⟨rfl,rfl⟩));refine bodyPost_ret (v:= .tuple #[.agg #[.bool false, .int .i64 0], .bool false]) (by simp[results,Tryz.results53,go_sem, *]) rfl ?_;exact RetVl.none' HN.out (by have:=G1.out;have:=G5.out;exact gq)
     | some n=>
      have hnm:n<=maxN:=(numS_le _ _ _ hn (λ_=>by decide) hAll.out).1;have hni:(n:Int)<=4611686018427387904:=by unfold maxN at hnm;omega
      rw[hn] at HNu;by_cases hle:n+up<=maxN
      ·have HN:Hid (decV s.data.toList=some (bif mn then -((n+up:Nat):Int) else ((n+up:Nat):Int))):=Lib.hid (by rw[HDQ.out];unfold progD;rw[hn];simp only;rw[<-HP.out.2,ble_of hle];rfl);have hng:¬4611686018427387904-(up:Int)<(n:Int):=by unfold maxN at hle;omega
       have hsum:(n:Int)+(up:Int)<=4611686018427387904:=by unfold maxN at hle;omega
       clear hn hle hnm;cases mn
       ·obtain rfl:sg=1:=HSg.out;have HOf:Hid (∀W,Calls Tryz.prog 87 #[.int .i64 ((n:Int)+(up:Int))] W λe w'=>e= .returned (.agg #[.bool true, .int .i64 ((n:Int)+(up:Int))])/\Gr W w'):=Lib.hid λW=>by
         have:=of_any ((n:Int)+(up:Int)) W
         rwa [ofV_in (by omega) (by omega)] at this
        go_wp2_with (first|(go_at_call 86;refine (HRp.out _).mono ?_;rintro e w5 ⟨rfl,g5⟩;have G5:=Lib.hid g5;replace v0:=bc g5 hz1 v0;replace v1:=bc g5 hz1 v1;replace u0:=bf g5 hz1 u0;replace u1:=bf g5 hz1 u1;have hz5:w.heap.size<w5.heap.size:=Nat.lt_of_lt_of_le hz1 g5.size;clear g5)|(go_at_call 85;refine (HNu.out _).mono ?_;rintro e w6 ⟨rfl,rfl⟩)|(go_at_call 87;refine (HOf.out _).mono ?_;rintro e w7 ⟨rfl,g7⟩;have G7:=Lib.hid g7;replace v0:=bc g7 hz5 v0;replace v1:=bc g7 hz5 v1;replace u0:=bf g7 hz5 u0;replace u1:=bf g7 hz5 u1;clear g7));refine bodyPost_ret (v:= .tuple #[.agg #[.bool true, .int .i64 ((n:Int)+(up:Int))], .bool true]) (by simp[results,Tryz.results53,go_sem, *]) rfl ?_;exact RetVl.some' (by rw[HN.out];simp) (by have:=G1.out;have:=G5.out;have:=G7.out;exact gq)
       ·obtain rfl:sg= -1:=HSg.out;have HOf:Hid (∀W,Calls Tryz.prog 87 #[.int .i64 (-((n:Int)+(up:Int)))] W λe w'=>e= .returned (.agg #[.bool true, .int .i64 (-((n:Int)+(up:Int)))])/\Gr W w'):=Lib.hid λW=>by
         have:=of_any (-((n:Int)+(up:Int))) W
         rwa [ofV_in (by omega) (by omega)] at this
        go_wp2_with (first|(go_at_call 86;refine (HRp.out _).mono ?_;rintro e w5 ⟨rfl,g5⟩;have G5:=Lib.hid g5;replace v0:=bc g5 hz1 v0;replace v1:=bc g5 hz1 v1;replace u0:=bf g5 hz1 u0;replace u1:=bf g5 hz1 u1;have hz5:w.heap.size<w5.heap.size:=Nat.lt_of_lt_of_le hz1 g5.size;clear g5)|(go_at_call 85;refine (HNu.out _).mono ?_;rintro e w6 ⟨rfl,rfl⟩)|(go_at_call 87;refine (HOf.out _).mono ?_;rintro e w7 ⟨rfl,g7⟩;have G7:=Lib.hid g7;replace v0:=bc g7 hz5 v0;replace v1:=bc g7 hz5 v1;replace u0:=bf g7 hz5 u0;replace u1:=bf g7 hz5 u1;clear g7));refine bodyPost_ret (v:= .tuple #[.agg #[.bool true, .int .i64 (-((n:Int)+(up:Int)))], .bool true]) (by simp[results,Tryz.results53,go_sem, *]) rfl ?_;exact RetVl.some' (by rw[HN.out];simp) (by have:=G1.out;have:=G5.out;have:=G7.out;exact gq)
      ·have HN:Hid (decV s.data.toList=none):=Lib.hid (by rw[HDQ.out];unfold progD;rw[hn];simp only;rw[<-HP.out.2,ble_not hle];rfl);have hng:4611686018427387904-(up:Int)<(n:Int):=by unfold maxN at hle;omega
       clear hn hle hnm;go_wp2_with (first|(go_at_call 86;refine (HRp.out _).mono ?_;rintro e w5 ⟨rfl,g5⟩;have G5:=Lib.hid g5;replace v0:=bc g5 hz1 v0;replace v1:=bc g5 hz1 v1;replace u0:=bf g5 hz1 u0;replace u1:=bf g5 hz1 u1;have hz5:w.heap.size<w5.heap.size:=Nat.lt_of_lt_of_le hz1 g5.size;clear g5)|(go_at_call 85;refine (HNu.out _).mono ?_;rintro e w6 ⟨rfl,rfl⟩));refine bodyPost_ret (v:= .tuple #[.agg #[.bool false, .int .i64 0], .bool false]) (by simp[results,Tryz.results53,go_sem, *]) rfl ?_;exact RetVl.none' HN.out (by have:=G1.out;have:=G5.out;exact gq)
theorem own_blk (A:Option Addr) (n c:Nat):(Value.slice A n c).ownBlock=blk A:=by cases A<;>rfl
structure Sc where
 pat:ByteArray
 ar:List (Nat×Nat)
 A:Option Addr
 c:Nat
 P:Option Addr
 pc:Nat
def Sc.code (s:Sc):List In:=codeY s.pat.data.toList
def Sc.g (s:Sc):Int:=grpX s.pat.data.toList
def sccells (l:List Sc):List Value:=l.flatMap λs=>[.string s.pat, .slice s.A s.ar.length s.c, .int .i64 s.g, .slice s.P s.code.length s.pc]
structure Ru where
 pat:ByteArray
 kind:Int
 xff:Int
 P:Option Addr
 pc:Nat
def Ru.code (s:Ru):List In:=codeY s.pat.data.toList
def Ru.g (s:Ru):Int:=grpX s.pat.data.toList
def rucells (l:List Ru):List Value:=l.flatMap λs=>[.string s.pat, .int .i64 s.kind, .int .i64 s.xff, .int .i64 s.g, .slice s.P s.code.length s.pc]
def FP (l:List Sc) (m:List Ru) (W:World):Prop:=(∀s∈l,Ra W s.A s.ar/\Ri W s.P s.code)/\∀s∈m,Ri W s.P s.code
def RpM (w:World) (R B0:Nat) (W:World) (l:List Sc) (m:List Ru) (v1 v2:Value):Prop:=Two w R B0 73 79 4 5 W v1 v2 l.length m.length (sccells l) (rucells m) (FP l m)
theorem Two.imp {w:World} {R B0:Nat} {T1 T2:TypeId} {z1 z2:Nat} {W:World} {v1 v2:Value} {n1 n2:Nat} {c1 c2:List Value} {F F':World->Prop} (h:Two w R B0 T1 T2 z1 z2 W v1 v2 n1 n2 c1 c2 F) (hF:∀W,F W->F' W):Two w R B0 T1 T2 z1 z2 W v1 v2 n1 n2 c1 c2 F':=by
 obtain ⟨K,hK,hk⟩:=h.kp;exact ⟨h.gr,h.ge,h.lt,h.sz,h.x1,h.x2,h.f1,h.f2,h.o1,h.o2,h.ne,K,hK,λW' hW=>hF _ (hk W' hW)⟩
theorem RpM.pushS {w:World} {R B0:Nat} {W:World} {l:List Sc} {m:List Ru} {v1 v2:Value} (h:RpM w R B0 W l m v1 v2) {V W9:World} (gV:Gr W V) (s:Sc) {A9:Option Addr} {c9:Nat} (own9:W9.ownsRow B0 73 4 (.slice A9 (l.length+1) c9) (l.length+1) (sccells l++[.string s.pat, .slice s.A s.ar.length s.c, .int .i64 s.g, .slice s.P s.code.length s.pc])) (hg:V.grownBy W9 v1.ownBlock) (hob:(Value.slice A9 (l.length+1) c9).ownBlock=v1.ownBlock\/(Value.slice A9 (l.length+1) c9).ownBlock=some V.heap.size)
  (hra:Ra V s.A s.ar) (hfa:∀ad,s.A=some ad->W.heap.size<=ad.block) (hri:Ri V s.P s.code) (hfp:∀ad,s.P=some ad->W.heap.size<=ad.block):RpM w R B0 (W9.setCell ⟨R,0,none⟩ (.slice A9 (l.length+1) c9)) (l++[s]) m (.slice A9 (l++[s]).length c9) v2/\∀k,k<B0->k≠R->(W9.setCell ⟨R,0,none⟩ (.slice A9 (l.length+1) c9)).heap[k]?=W.heap[k]?:=by
 obtain ⟨k1,k2⟩:=Two.push1 h gV own9 hg hob (G:=λW=>Ra W s.A s.ar/\Ri W s.P s.code) (blkL s.ar.length s.A++blkL s.code.length s.P) (λb hb=>by
  rcases List.mem_append.1 hb with hb|hb
  ·exact ⟨blk_ge hfa b hb,hra.lt b hb⟩
  ·exact ⟨blk_ge hfp b hb,Rd.lt hri b hb⟩) (λW' hW=>⟨hra.same λb hb=>hW b (List.mem_append_left _ hb),Rd.same hri λb hb=>hW b (List.mem_append_right _ hb)⟩)
 refine ⟨?_,k2⟩;have k3:=k1.imp (F':=FP (l++[s]) m) λW hw=>⟨λz hz=>(by rcases List.mem_append.1 hz with hz|hz;exact hw.1.1 z hz;rw[List.mem_singleton] at hz;subst hz;exact hw.2),hw.1.2⟩
 unfold RpM;rw[show (l++[s]).length=l.length+1 by simp,show sccells (l++[s])=sccells l++[.string s.pat, .slice s.A s.ar.length s.c, .int .i64 s.g, .slice s.P s.code.length s.pc] by simp[sccells]];exact k3
theorem RpM.pushR {w:World} {R B0:Nat} {W:World} {l:List Sc} {m:List Ru} {v1 v2:Value} (h:RpM w R B0 W l m v1 v2) {V W9:World} (gV:Gr W V) (s:Ru) {A9:Option Addr} {c9:Nat} (own9:W9.ownsRow B0 79 5 (.slice A9 (m.length+1) c9) (m.length+1) (rucells m++[.string s.pat, .int .i64 s.kind, .int .i64 s.xff, .int .i64 s.g, .slice s.P s.code.length s.pc])) (hg:V.grownBy W9 v2.ownBlock) (hob:(Value.slice A9 (m.length+1) c9).ownBlock=v2.ownBlock\/(Value.slice A9 (m.length+1) c9).ownBlock=some V.heap.size)
  (hri:Ri V s.P s.code) (hfp:∀ad,s.P=some ad->W.heap.size<=ad.block):RpM w R B0 (W9.setCell ⟨R,1,none⟩ (.slice A9 (m.length+1) c9)) l (m++[s]) v1 (.slice A9 (m++[s]).length c9)/\∀k,k<B0->k≠R->(W9.setCell ⟨R,1,none⟩ (.slice A9 (m.length+1) c9)).heap[k]?=W.heap[k]?:=by
 obtain ⟨k1,k2⟩:=Two.push2 h gV own9 hg hob (G:=λW=>Ri W s.P s.code) (blkL s.code.length s.P) (λb hb=>⟨blk_ge hfp b hb,Rd.lt hri b hb⟩) (λW' hW=>Rd.same hri hW);refine ⟨?_,k2⟩;have k3:=k1.imp (F':=FP l (m++[s])) λW hw=>⟨hw.1.1,λz hz=>(by rcases List.mem_append.1 hz with hz|hz;exact hw.1.2 z hz;rw[List.mem_singleton] at hz;subst hz;exact hw.2)⟩
 unfold RpM;rw[show (m++[s]).length=m.length+1 by simp,show rucells (m++[s])=rucells m++[.string s.pat, .int .i64 s.kind, .int .i64 s.xff, .int .i64 s.g, .slice s.P s.code.length s.pc] by simp[rucells]];exact k3
def LnP (w:World) (R B0:Nat) (wr:World) (l:List Sc) (m:List Ru) (v1 v2:Value) (a:Ln) (e:Ending) (w':World):Prop:=match a with
 | .bad=>e= .returned (.int .i64 15)/\Gr wr w'
 | .s v=>e= .returned (.int .i64 0)/\∃s v',s.pat.data.toList=v.pat/\s.ar=v.ar/\RpM w R B0 w' (l++[s]) m v' v2/\∀k,k<B0->k≠R->w'.heap[k]?=wr.heap[k]?
 | .r v=>e= .returned (.int .i64 0)/\∃s v',s.pat.data.toList=v.pat/\s.kind=v.kind/\s.xff=v.xff/\RpM w R B0 w' l (m++[s]) v1 v'/\∀k,k<B0->k≠R->w'.heap[k]?=wr.heap[k]?
theorem info_schema:(Tryz.prog.info? 73).map (λi=>(i.zero,i.size,i.bytes))=some (some (.agg #[.string ByteArray.empty, .slice none 0 0, .int .i64 0, .slice none 0 0]),4,72):=by kernel_rfl
theorem info_rule:(Tryz.prog.info? 79).map (λi=>(i.zero,i.size,i.bytes))=some (some (.agg #[.string ByteArray.empty, .int .i64 0, .int .i64 0, .int .i64 0, .slice none 0 0]),5,64):=by kernel_rfl
theorem comp_some (s:ByteArray) (hs:s.size<=500) (w:World):Calls Tryz.prog 51 #[.string s] w λe w'=>∃P c,e= .returned (.tuple #[.agg #[.int .i64 (grpX s.data.toList), .slice P (codeY s.data.toList).length c], .int .i64 (errX s.data.toList)])/\Ri w' P (codeY s.data.toList)/\Gr w w'/\∀ad,P=some ad->w.heap.size<=ad.block:=by
 refine (compile_any s hs w).mono ?_;rintro e w' ⟨A,c,rfl,hr,hg,hf⟩;exact ⟨A,c,rfl,hr,hg,λad h=>(hf ad h).2⟩
theorem pat_no {x:List UInt8} (h:errX x≠0):patB x=false:=by
 unfold patB;rw[beq_eq_false_iff_ne.2 h];simp
theorem pat_yes {x:List UInt8} (h0:x≠[]) (h:errX x=0):patB x=true:=by
 unfold patB;rw[h,List.isEmpty_eq_false_iff.2 h0];rfl
def SmS (R o b Bp:Nat) (v:Value) (x:ByteArray) (g:Int) (P:Option Addr) (n pc:Nat) (X:World->Prop) (W:World):Prop:=
 W.cell? ⟨R,o,none⟩=some v/\W.frozen? ⟨R,o,none⟩=false/\W.cell? ⟨b,1,none⟩=some (.string x)/\W.cell? ⟨Bp,0,none⟩=some (.int .i64 g)/\W.cell? ⟨Bp,1,none⟩=some (.slice P n pc)/\X W/\R<W.heap.size/\b<W.heap.size/\Bp<W.heap.size
theorem SmS.kept {R o b Bp n pc:Nat} {v:Value} {P:Option Addr} {x:ByteArray} {g:Int} {X:World->Prop} {W W':World} (h:SmS R o b Bp v x g P n pc X W) (hs:W.heap.size<=W'.heap.size) (hR:W'.heap[R]?=W.heap[R]?) (hb:W'.heap[b]?=W.heap[b]?) (hB:W'.heap[Bp]?=W.heap[Bp]?) (hX:X W'):SmS R o b Bp v x g P n pc X W':=by
 obtain ⟨h0,h1,h2,h3,h4, -,h5,h6,h7⟩:=h;exact ⟨(World.cell?_of_block (a:=⟨R,o,none⟩) hR).trans h0,(World.frozen?_of_block (a:=⟨R,o,none⟩) hR).trans h1,(World.cell?_of_block (a:=⟨b,1,none⟩) hb).trans h2,(World.cell?_of_block (a:=⟨Bp,0,none⟩) hB).trans h3,(World.cell?_of_block (a:=⟨Bp,1,none⟩) hB).trans h4,hX,Nat.lt_of_lt_of_le h5 hs,Nat.lt_of_lt_of_le h6 hs,Nat.lt_of_lt_of_le h7 hs⟩
theorem SmS.gr {R o b Bp n pc:Nat} {v:Value} {P:Option Addr} {x:ByteArray} {g:Int} {X:World->Prop} {W W':World} (h:SmS R o b Bp v x g P n pc X W) (k:Gr W W') (hX:X W'):SmS R o b Bp v x g P n pc X W':=
 h.kept k.size (Below.block k R h.2.2.2.2.2.2.1) (Below.block k b h.2.2.2.2.2.2.2.1) (Below.block k Bp h.2.2.2.2.2.2.2.2) hX
theorem schema_any {w wr:World} {R B0 b:Nat} {l:List Sc} {m:List Ru} {v1 v2:Value} (h:RpM w R B0 wr l m v1 v2) (cw:Nat) (x y:ByteArray) (hb:b<wr.heap.size) (hbR:b≠R) (hb1:some b≠v1.ownBlock)
  (cx:wr.cell? ⟨b,1,none⟩=some (.string x)) (cy:wr.cell? ⟨b,2,none⟩=some (.string y)) (hx:x.size<=500) (hy:(y.size:Int)<=300) (hx0:x.data.toList≠[]) (hl:l.length<=1000) (hm:Ml wr) :
  Calls Tryz.prog 35 #[.pointer (some ⟨R,0,none⟩), .slice (some ⟨b,1,none⟩) 2 cw] wr (LnP w R B0 wr l m v1 v2 (lnS (schS x.data.toList y.data.toList))):=by
 obtain ⟨i0,hi0,hz0,hz1,hz2⟩:=info_parts info_schema;obtain ⟨A,c,hv⟩:=own_form h.o1;subst hv;have HCP:=Lib.hid (λw=>comp_some x hx w);have HRT:=Lib.hid (λw hm=>rules_RetentionsF y hy w hm);have HM:=Lib.hid hm;have Hh:=Lib.hid h;obtain ⟨g,hg⟩:∃g:Int,g=grpX x.data.toList:=⟨_,rfl⟩
 obtain ⟨n,hn⟩:∃n,n=(codeY x.data.toList).length:=⟨_,rfl⟩
 rw[<-hg,<-hn] at HCP;have HG:=Lib.hid (And.intro hg hn);have hc0:=h.x1;have hf0:=h.f1;have hRl:R<wr.heap.size:=Nat.lt_of_lt_of_le h.lt h.sz;have hRB:=h.lt;have hBz:=h.sz;rw[own_blk] at hb1;have HbA:=Lib.hid (And.intro hbR hb1);have HX0:=Lib.hid hx0;clear h hx hy hm hg hn hb1 hbR hx0;by_cases hE:errX x.data.toList=0;rotate_left
 ·have HB:Hid (lnS (schS x.data.toList y.data.toList)= .bad):=Lib.hid (by unfold schS;rw[pat_no hE];rfl);obtain ⟨E,hEE⟩:∃E,E=errX x.data.toList:=⟨_,rfl⟩
  rw[<-hEE] at HCP hE;have hE2:(E==0)=false:=beq_eq_false_iff_ne.2 hE;clear hEE;go_enter Tryz.func35,Tryz.ntmps35;go_wp2_with (first|(go_at_call 51;refine (HCP.out _).mono ?_;rintro e w1 ⟨P,pc,rfl,hri,g1,hf1⟩;have G1:=Lib.hid g1;have cy:=bc (g1.alloc (.cells #[.int .i64 g, .slice P n pc] 71)) hb cy;have HM2:=Lib.hid (HM.out.gr (g1.alloc (.cells #[.int .i64 g, .slice P n pc] 71)));clear hri g1 hf1)|(go_at_call 26;refine (HRT.out _ HM2.out).mono ?_;rintro e w3 ⟨Ar,ca,rfl,hra,g3,hf3⟩;have G3:=Lib.hid g3;clear hra g3 hf3));all_goals (
   go_ret;rw[HB.out];exact ⟨rfl,(G1.out.alloc _).trans G3.out⟩)
 rw[hE] at HCP;cases hr:retS y.data.toList with
 | none=>
  have HB:Hid (lnS (schS x.data.toList y.data.toList)= .bad):=Lib.hid (by unfold schS;rw[hr];cases patB x.data.toList<;>rfl);rw[hr] at HRT;clear hr hE;go_enter Tryz.func35,Tryz.ntmps35;go_wp2_with (first|(go_at_call 51;refine (HCP.out _).mono ?_;rintro e w1 ⟨P,pc,rfl,hri,g1,hf1⟩;have G1:=Lib.hid g1;have cy:=bc (g1.alloc (.cells #[.int .i64 g, .slice P n pc] 71)) hb cy;have HM2:=Lib.hid (HM.out.gr (g1.alloc (.cells #[.int .i64 g, .slice P n pc] 71)));clear hri g1 hf1)|(go_at_call 26;refine (HRT.out _ HM2.out).mono ?_;rintro e w3 ⟨Ar,ca,rfl,hra,g3,hf3⟩;have G3:=Lib.hid g3;clear hra g3 hf3));all_goals (
   go_ret;rw[HB.out];exact ⟨rfl,(G1.out.alloc _).trans G3.out⟩)
 | some ar=>
 rw[show schS x.data.toList y.data.toList=some ⟨x.data.toList,ar⟩ by unfold schS;rw[pat_yes HX0.out hE,hr];rfl];rw[hr] at HRT;clear hr hE;go_enter Tryz.func35,Tryz.ntmps35;go_upto_region 2 with (go_at_call 51;refine (HCP.out _).mono ?_;rintro e w1 ⟨P,pc,rfl,hri,g1,hf1⟩)
 have g1b:Gr wr (w1.alloc (.cells #[.int .i64 g, .slice P n pc] 71)):=g1.alloc _;have cy1:=bc g1b hb cy;have hz1w:=g1.size;have q0:(w1.alloc (.cells #[.int .i64 g, .slice P n pc] 71)).cell? ⟨w1.heap.size,0,none⟩=some (.int .i64 g):=by go_simp
 have q1:(w1.alloc (.cells #[.int .i64 g, .slice P n pc] 71)).cell? ⟨w1.heap.size,1,none⟩=some (.slice P n pc):=by go_simp
 have hqz:w1.heap.size<(w1.alloc (.cells #[.int .i64 g, .slice P n pc] 71)).heap.size:=by simp
 obtain ⟨Bp,hBp⟩:∃Bp,Bp=w1.heap.size:=⟨_,rfl⟩
 have hBpw:wr.heap.size<=Bp:=by omega
 rw[<-hBp] at q0 q1 hqz ⊢;have hri':=Rd.gr hri (Gr.alloc (Gr.refl w1) (.cells #[.int .i64 g, .slice P n pc] 71));generalize w1.alloc (.cells #[.int .i64 g, .slice P n pc] 71)=w2 at g1b cy1 q0 q1 hqz hri' ⊢;have HRI:=Lib.hid (And.intro hri' hf1);have Hg1:=Lib.hid g1;clear hri g1 hBp hz1w hri' hf1;have HRT2:=Lib.hid (HRT.out w2 (HM.out.gr g1b));go_upto_region 5 with (go_at_call 26;refine HRT2.out.mono ?_;rintro e w3 ⟨Ar,ca,rfl,hra,g3,hf3⟩)
 have g13:=g1b.trans g3;obtain ⟨V,hV⟩:∃V,V=w3.drew:=⟨_,rfl⟩
 have gV:Gr wr V:=by rw[hV];exact g13.drew
 have gV2:Gr w2 V:=by rw[hV];exact g3.drew
 have hS0:SmS R 0 b Bp (.slice A l.length c) x g P n pc (λ_=>True) V:=⟨(bc gV hRl hc0),(bf gV hRl hf0),(bc gV hb cx),(bc gV2 hqz q0),(bc gV2 hqz q1),trivial,Nat.lt_of_lt_of_le hRl gV.size,Nat.lt_of_lt_of_le hb gV.size,Nat.lt_of_lt_of_le hqz gV2.size⟩
 have ownV:=own_grU Hh.out.o1 gV;have hvl:=Hh.out.o1.lt;have hw2:wr.heap.size<=w2.heap.size:=g1b.size;have hw1:wr.heap.size<=w1.heap.size:=Hg1.out.size;have Hok:Hid (Ra V Ar ar/\(∀ad,Ar=some ad->wr.heap.size<=ad.block)/\Ri V P (codeY x.data.toList)/\∀ad,P=some ad->wr.heap.size<=ad.block):=Lib.hid ⟨by rw[hV];exact Ra.gr hra (Gr.drew (Gr.refl w3)),λad e=>Nat.le_trans hw2 (hf3 ad e),Rd.gr HRI.out.1 gV2,HRI.out.2⟩;have HV:=Lib.hid hV;clear hra hf3 g13 hc0 hf0 cx cy cy1 q0 q1 hqz g1b gV2 hw1 hw2 g3;try simp only[Option.getD_some]
 refine wp_region_Z 18 (SmS R 0 b Bp (.slice A l.length c) x g P n pc (λ_=>True)) (by kernel_rfl) ?_;rw[<-HV.out];clear hV;refine zu 0 hS0 ?_;refine zu 1 hS0 ?_;refine zu 2 hS0 ?_;refine zu 3 hS0 ?_;refine zu 4 hS0 ?_;refine zu 5 hS0 ?_ (hy:=λW hS=>by obtain ⟨s0, -⟩:=hS;go_simp<;>rfl);refine zu 6 hS0 ?_;refine zu 7 hS0 ?_;refine zu 8 hS0 ?_ (hy:=λW hS=>by obtain ⟨-, -,t0, -⟩:=hS;go_simp<;>rfl);refine zu 9 hS0 ?_;refine zu 10 hS0 ?_;refine zu 11 hS0 ?_ (hy:=λW hS=>by obtain ⟨-, -, -,t1,t2, -⟩:=hS;go_simp<;>rfl);refine zu 12 hS0 ?_;refine zs 13 rfl (λK hK=>?_);simp only[Gl];have hS7:=hS0.gr (Gr.alloc (Gr.refl _) (.cells #[.string x, .slice Ar ar.length ca, .int .i64 g, .slice P n pc] 73)) trivial;have own7:=ownV.alloc (.cells #[.string x, .slice Ar ar.length ca, .int .i64 g, .slice P n pc] 73);have hrx:Rd (V.alloc (.cells #[.string x, .slice Ar ar.length ca, .int .i64 g, .slice P n pc] 73)) 4 (some ⟨V.heap.size,0,none⟩) 1 ([.string x, .slice Ar ar.length ca, .int .i64 g, .slice P n pc]:List Value):=Rd.newU (W:=V) rfl 73 ([.string x, .slice Ar ar.length ca, .int .i64 g, .slice P n pc]:List Value) rfl;clear ownV;go_simp;refine hK.out _ _ (λhnz=>?zs13) (λ_=>?zr13);case zs13=>exact hS7
 clear hK K;try simp only[Pu,Gl]
 refine zs 14 rfl (λK hK=>?_);simp only[Gl];refine wp_append_rdX (.tmp 34) (.tmp 42) 55 rfl B0 73 i0 _ 4 72 Tryz.underlying55 hi0 hz0 hz1 hz2 rfl (by decide) _ l.length _ rfl own7 ⟨V.heap.size,0,none⟩ 1 _ ([.string x, .slice Ar ar.length ca, .int .i64 g, .slice P n pc]:List Value) rfl hrx (by decide) (by simp[Value.oneCell']) (by unfold maxLen;omega) (by omega) (by have:=gV.size;simp;omega) ?_;intro v' w9 own9 hgr9 hob9;obtain ⟨A9,c9,hv9⟩:=own_form own9;subst hv9;have hgr9:(V.alloc (.cells #[.string x, .slice Ar ar.length ca, .int .i64 g, .slice P n pc] 73)).grownBy w9 (Value.slice A l.length c).ownBlock:=hgr9;have hob9:(Value.slice A9 (l.length+1) c9).ownBlock=(Value.slice A l.length c).ownBlock\/(Value.slice A9 (l.length+1) c9).ownBlock=some (V.alloc (.cells #[.string x, .slice Ar ar.length ca, .int .i64 g, .slice P n pc] 73)).heap.size:=hob9;have Hg9:=Lib.hid (And.intro own9 (And.intro hgr9 hob9));rw[own_blk] at hgr9;have hS9:=hS7.kept hgr9.size (hgr9.block R hS7.2.2.2.2.2.2.1 (λe=>by have:=(hvl R (by rw[own_blk];exact e.symm)).1;omega)) (hgr9.block b hS7.2.2.2.2.2.2.2.1 HbA.out.2) (hgr9.block Bp hS7.2.2.2.2.2.2.2.2 (λe=>by have:=(hvl Bp (by rw[own_blk];exact e.symm)).2;omega)) trivial;clear own9 hgr9 hob9 hS7 own7 hrx;refine hK.out _ _ (λhnz=>?zs14) (λ_=>?zr14);case zs14=>exact hS9
 clear hK K;try simp only[Pu,Gl]
 refine zs 15 rfl (λK hK=>?_);simp only[Gl];go_simp;refine hK.out _ _ (λhnz=>?zs15) (λ_=>?zr15);case zs15=>exact hS9
 clear hK K;try simp only[Pu,Gl]
 refine zs 16 rfl (λK hK=>?_);simp only[Gl];go_simp;refine hK.out _ _ (λhnz=>?zs16) (λ_=>?zr16);case zs16=>exact hS9
 clear hK K;try simp only[Pu,Gl]
 refine zs 17 rfl (λK hK=>?_);simp only[Gl];go_simp;refine hK.out _ _ (λhnz=>?zs17) (λ_=>?zr17);case zs17=>exact hS9
 clear hK K;try simp only[Pu,Gl]
 refine zs 18 rfl (λK hK=>?_);simp only[Gl];obtain ⟨s0,s1, -, -, -, -,hzR, -, -⟩:=id hS9;go_simp;refine hK.out _ _ (λhnz=>?zs18) (λ_=>?zr18);case zs18=>exact absurd rfl hnz
 clear hK K;try simp only[Pu,Gl]
 refine wpAnyZ_done (by kernel_rfl) ?_ _;clear s1;go_wp2;go_ret;obtain ⟨own9,hgr9,hob9⟩:=Hg9.out;have gVV:Gr wr (V.alloc (.cells #[.string x, .slice Ar ar.length ca, .int .i64 g, .slice P n pc] 73)):=gV.alloc _;obtain ⟨f1,f2⟩:=Hh.out.pushS gVV ⟨x,ar,Ar,ca,P,pc⟩ (by simpa [Sc.code,Sc.g,<-HG.out.1,<-HG.out.2] using own9) hgr9 hob9 ((Hok.out.1).gr (Gr.alloc (Gr.refl V) _)) Hok.out.2.1 (Rd.gr Hok.out.2.2.1 (Gr.alloc (Gr.refl V) _)) Hok.out.2.2.2;exact ⟨rfl,⟨x,ar,Ar,ca,P,pc⟩,_,rfl,rfl,f1,f2⟩
theorem rule_any {w wr:World} {R B0 b:Nat} {l:List Sc} {m:List Ru} {v1 v2:Value} (h:RpM w R B0 wr l m v1 v2) (cw:Nat) (x y z:ByteArray) (hb:b<wr.heap.size) (hbR:b≠R) (hb1:some b≠v2.ownBlock)
  (cx:wr.cell? ⟨b,1,none⟩=some (.string x)) (cy:wr.cell? ⟨b,2,none⟩=some (.string y)) (cz:wr.cell? ⟨b,3,none⟩=some (.string z)) (hx:x.size<=500) (hz:(z.size:Int)<=4000) (hx0:x.data.toList≠[]) (hl:m.length<=1000) (hm:Ml wr) :
  Calls Tryz.prog 36 #[.pointer (some ⟨R,0,none⟩), .slice (some ⟨b,1,none⟩) 3 cw] wr (LnP w R B0 wr l m v1 v2 (lnR (rulS x.data.toList y.data.toList z.data.toList))):=by
 obtain ⟨i0,hi0,hz0,hz1,hz2⟩:=info_parts info_rule;obtain ⟨A,c,hv⟩:=own_form h.o2;subst hv;have HCP:=Lib.hid (λw=>comp_some x hx w);have HKD:=Lib.hid (λw=>kind_any y w);obtain ⟨ok,xn,HDC,HDV⟩:∃(ok:Bool) (xn:Int),Hid (∀w,Ml w->Calls Tryz.prog 53 #[.string z] w λe w'=>e= .returned (.tuple #[.agg #[.bool ok, .int .i64 xn], .bool ok])/\Gr w w')/\Hid (decV z.data.toList=if ok=true then some xn else none):=by
  cases hd:decV z.data.toList with
  | none=>exact ⟨false,0,Lib.hid λw hm=>(dparse_any z hz w hm).mono λe w' h=>(by rw[hd] at h;exact h),Lib.hid rfl⟩
  | some n=>exact ⟨true,n,Lib.hid λw hm=>(dparse_any z hz w hm).mono λe w' h=>(by rw[hd] at h;exact h),Lib.hid rfl⟩
 have HM:=Lib.hid hm;have Hh:=Lib.hid h;obtain ⟨g,hg⟩:∃g:Int,g=grpX x.data.toList:=⟨_,rfl⟩
 obtain ⟨n,hn⟩:∃n,n=(codeY x.data.toList).length:=⟨_,rfl⟩
 obtain ⟨kd,hkd⟩:∃kd,kd=kindI y:=⟨_,rfl⟩
 rw[<-hg,<-hn] at HCP;rw[<-hkd] at HKD;have HG:=Lib.hid (And.intro hg hn);have hc0:=h.x2;have hf0:=h.f2;have hRl:R<wr.heap.size:=Nat.lt_of_lt_of_le h.lt h.sz;have hRB:=h.lt;have hBz:=h.sz;rw[own_blk] at hb1;have HbA:=Lib.hid (And.intro hbR hb1);have HX0:=Lib.hid hx0;have HKI:Hid (kindI ⟨y.data.toList.toArray⟩=kd):=Lib.hid (by rw[hkd]);clear h hx hz hm hg hn hb1 hbR hx0 hkd;by_cases hE:errX x.data.toList=0;rotate_left
 ·have HB:Hid (lnR (rulS x.data.toList y.data.toList z.data.toList)= .bad):=Lib.hid (by unfold rulS;rw[pat_no hE];rfl);obtain ⟨E,hEE⟩:∃E,E=errX x.data.toList:=⟨_,rfl⟩
  rw[<-hEE] at HCP hE;have hE2:(E==0)=false:=beq_eq_false_iff_ne.2 hE;clear hEE;go_enter Tryz.func36,Tryz.ntmps36;go_wp2_with (first|(go_at_call 51;refine (HCP.out _).mono ?_;rintro e w1 ⟨P,pc,rfl,hri,g1,hf1⟩;have G1:=Lib.hid g1;have cy:=bc (g1.alloc (.cells #[.int .i64 g, .slice P n pc] 71)) hb cy;have cz:=bc (g1.alloc (.cells #[.int .i64 g, .slice P n pc] 71)) hb cz;have HM2:=Lib.hid (HM.out.gr (g1.alloc (.cells #[.int .i64 g, .slice P n pc] 71)));clear hri g1 hf1)|(go_at_call 52;refine (HKD.out _).mono ?_;rintro e w2 ⟨rfl,rfl⟩)|(go_at_call 53;refine (HDC.out _ HM2.out).mono ?_;rintro e w3 ⟨rfl,g3⟩;have G3:=Lib.hid g3;clear g3));go_ret;rw[HB.out];exact ⟨rfl,((G1.out.alloc _).trans G3.out).alloc _⟩
 rw[hE] at HCP;by_cases hk0:kd=0
 ·have HB:Hid (lnR (rulS x.data.toList y.data.toList z.data.toList)= .bad):=Lib.hid (by unfold rulS;rw[HKI.out,hk0];cases patB x.data.toList<;>rfl);subst hk0;clear hE;go_enter Tryz.func36,Tryz.ntmps36;go_wp2_with (first|(go_at_call 51;refine (HCP.out _).mono ?_;rintro e w1 ⟨P,pc,rfl,hri,g1,hf1⟩;have G1:=Lib.hid g1;have cy:=bc (g1.alloc (.cells #[.int .i64 g, .slice P n pc] 71)) hb cy;have cz:=bc (g1.alloc (.cells #[.int .i64 g, .slice P n pc] 71)) hb cz;have HM2:=Lib.hid (HM.out.gr (g1.alloc (.cells #[.int .i64 g, .slice P n pc] 71)));clear hri g1 hf1)|(go_at_call 52;refine (HKD.out _).mono ?_;rintro e w2 ⟨rfl,rfl⟩)|(go_at_call 53;refine (HDC.out _ HM2.out).mono ?_;rintro e w3 ⟨rfl,g3⟩;have G3:=Lib.hid g3;clear g3));go_ret;rw[HB.out];exact ⟨rfl,((G1.out.alloc _).trans G3.out).alloc _⟩
 have hkb:(kd==0)=false:=beq_eq_false_iff_ne.2 hk0;have HR:Hid (rulS x.data.toList y.data.toList z.data.toList=(xffS z.data.toList).map (RR.mk x.data.toList kd)):=Lib.hid (by unfold rulS;rw[pat_yes HX0.out hE,HKI.out,bne,hkb];rfl);clear hE;cases ok
 ·have HB:Hid (lnR (rulS x.data.toList y.data.toList z.data.toList)= .bad):=Lib.hid (by rw[HR.out];unfold xffS;rw[HDV.out];rfl);go_enter Tryz.func36,Tryz.ntmps36;go_wp2_with (first|(go_at_call 51;refine (HCP.out _).mono ?_;rintro e w1 ⟨P,pc,rfl,hri,g1,hf1⟩;have G1:=Lib.hid g1;have cy:=bc (g1.alloc (.cells #[.int .i64 g, .slice P n pc] 71)) hb cy;have cz:=bc (g1.alloc (.cells #[.int .i64 g, .slice P n pc] 71)) hb cz;have HM2:=Lib.hid (HM.out.gr (g1.alloc (.cells #[.int .i64 g, .slice P n pc] 71)));clear hri g1 hf1)|(go_at_call 52;refine (HKD.out _).mono ?_;rintro e w2 ⟨rfl,rfl⟩)|(go_at_call 53;refine (HDC.out _ HM2.out).mono ?_;rintro e w3 ⟨rfl,g3⟩;have G3:=Lib.hid g3;clear g3));go_ret;rw[HB.out];exact ⟨rfl,((G1.out.alloc _).trans G3.out).alloc _⟩
 have hd:decV z.data.toList=some xn:=HDV.out;by_cases h0:0<=xn;rotate_left
 ·have HB:Hid (lnR (rulS x.data.toList y.data.toList z.data.toList)= .bad):=Lib.hid (by rw[HR.out];unfold xffS;rw[hd];simp only[decide_eq_false h0];rfl);have hlt:xn<0:=by omega
  clear hd h0;go_enter Tryz.func36,Tryz.ntmps36;go_wp2_with (first|(go_at_call 51;refine (HCP.out _).mono ?_;rintro e w1 ⟨P,pc,rfl,hri,g1,hf1⟩;have G1:=Lib.hid g1;have cy:=bc (g1.alloc (.cells #[.int .i64 g, .slice P n pc] 71)) hb cy;have cz:=bc (g1.alloc (.cells #[.int .i64 g, .slice P n pc] 71)) hb cz;have HM2:=Lib.hid (HM.out.gr (g1.alloc (.cells #[.int .i64 g, .slice P n pc] 71)));clear hri g1 hf1)|(go_at_call 52;refine (HKD.out _).mono ?_;rintro e w2 ⟨rfl,rfl⟩)|(go_at_call 53;refine (HDC.out _ HM2.out).mono ?_;rintro e w3 ⟨rfl,g3⟩;have G3:=Lib.hid g3;clear g3));go_ret;rw[HB.out];exact ⟨rfl,((G1.out.alloc _).trans G3.out).alloc _⟩
 by_cases h1:xn<=1000000;rotate_left
 ·have HB:Hid (lnR (rulS x.data.toList y.data.toList z.data.toList)= .bad):=Lib.hid (by rw[HR.out];unfold xffS;rw[hd];simp only[decide_eq_false h1,Bool.and_false];rfl);have hlt:¬xn<0:=by omega
  have hgt:(1000000:Int)<xn:=by omega
  clear hd h0 h1;go_enter Tryz.func36,Tryz.ntmps36;go_wp2_with (first|(go_at_call 51;refine (HCP.out _).mono ?_;rintro e w1 ⟨P,pc,rfl,hri,g1,hf1⟩;have G1:=Lib.hid g1;have cy:=bc (g1.alloc (.cells #[.int .i64 g, .slice P n pc] 71)) hb cy;have cz:=bc (g1.alloc (.cells #[.int .i64 g, .slice P n pc] 71)) hb cz;have HM2:=Lib.hid (HM.out.gr (g1.alloc (.cells #[.int .i64 g, .slice P n pc] 71)));clear hri g1 hf1)|(go_at_call 52;refine (HKD.out _).mono ?_;rintro e w2 ⟨rfl,rfl⟩)|(go_at_call 53;refine (HDC.out _ HM2.out).mono ?_;rintro e w3 ⟨rfl,g3⟩;have G3:=Lib.hid g3;clear g3));go_ret;rw[HB.out];exact ⟨rfl,((G1.out.alloc _).trans G3.out).alloc _⟩
 rw[HR.out,show xffS z.data.toList=some xn by unfold xffS;rw[hd];simp only[decide_eq_true h0,decide_eq_true h1];rfl];have hlt:¬xn<0:=by omega
 have hgt:¬(1000000:Int)<xn:=by omega
 clear hd h0 h1;go_enter Tryz.func36,Tryz.ntmps36;go_upto_region 2 with (go_at_call 51;refine (HCP.out _).mono ?_;rintro e w1 ⟨P,pc,rfl,hri,g1,hf1⟩)
 have g1b:Gr wr (w1.alloc (.cells #[.int .i64 g, .slice P n pc] 71)):=g1.alloc _;have cy1:=bc g1b hb cy;have cz1:=bc g1b hb cz;have hz1w:=g1.size;have q0:(w1.alloc (.cells #[.int .i64 g, .slice P n pc] 71)).cell? ⟨w1.heap.size,0,none⟩=some (.int .i64 g):=by go_simp
 have q1:(w1.alloc (.cells #[.int .i64 g, .slice P n pc] 71)).cell? ⟨w1.heap.size,1,none⟩=some (.slice P n pc):=by go_simp
 have hqz:w1.heap.size<(w1.alloc (.cells #[.int .i64 g, .slice P n pc] 71)).heap.size:=by simp
 obtain ⟨Bp,hBp⟩:∃Bp,Bp=w1.heap.size:=⟨_,rfl⟩
 have hBpw:wr.heap.size<=Bp:=by omega
 rw[<-hBp] at q0 q1 hqz ⊢;have hri':=Rd.gr hri (Gr.alloc (Gr.refl w1) (.cells #[.int .i64 g, .slice P n pc] 71));generalize w1.alloc (.cells #[.int .i64 g, .slice P n pc] 71)=w2 at g1b cy1 cz1 q0 q1 hqz hri' ⊢;have HRI:=Lib.hid (And.intro hri' hf1);have Hg1:=Lib.hid g1;clear hri g1 hBp hz1w hri' hf1 cy cz;have HDC2:=Lib.hid (HDC.out w2 (HM.out.gr g1b));go_upto_region 4 with (first|(go_at_call 52;refine (HKD.out _).mono ?_;rintro e w4 ⟨rfl,rfl⟩)|(go_at_call 53;refine HDC2.out.mono ?_;rintro e w3 ⟨rfl,g3⟩))
 have g3b:Gr w2 (w3.alloc (.cells #[.bool true, .int .i64 xn] 104)):=g3.alloc _;have q3:(w3.alloc (.cells #[.bool true, .int .i64 xn] 104)).cell? ⟨w3.heap.size,1,none⟩=some (.int .i64 xn):=by go_simp
 have hvz:w3.heap.size<(w3.alloc (.cells #[.bool true, .int .i64 xn] 104)).heap.size:=by simp
 have hz3:=g3.size;have hz2:=g1b.size;obtain ⟨Bv,hBv⟩:∃Bv,Bv=w3.heap.size:=⟨_,rfl⟩
 have hBvw:wr.heap.size<=Bv:=by omega
 rw[<-hBv] at q3 hvz ⊢;generalize w3.alloc (.cells #[.bool true, .int .i64 xn] 104)=w5 at g3b q3 hvz ⊢;clear hBv g3 hz3 hz2;go_upto_region 6 with (fail)
 have g13:=g1b.trans g3b;obtain ⟨V,hV⟩:∃V,V=w5.drew:=⟨_,rfl⟩
 have gV:Gr wr V:=by rw[hV];exact g13.drew
 have gV2:Gr w2 V:=by rw[hV];exact g3b.drew
 have hS0:SmS R 1 b Bp (.slice A m.length c) x g P n pc (λW=>W.cell? ⟨Bv,1,none⟩=some (.int .i64 xn)/\Bv<W.heap.size) V:=⟨(bc gV hRl hc0),(bf gV hRl hf0),(bc gV hb cx),(bc gV2 hqz q0),(bc gV2 hqz q1),⟨by rw[hV];exact q3,by rw[hV];exact hvz⟩,Nat.lt_of_lt_of_le hRl gV.size,Nat.lt_of_lt_of_le hb gV.size,Nat.lt_of_lt_of_le hqz gV2.size⟩
 have ownV:=own_grU Hh.out.o2 gV;have hvl:=Hh.out.o2.lt;have hw1:wr.heap.size<=w1.heap.size:=Hg1.out.size;have Hok:Hid (Ri V P (codeY x.data.toList)/\∀ad,P=some ad->wr.heap.size<=ad.block):=Lib.hid ⟨Rd.gr HRI.out.1 gV2,HRI.out.2⟩;have HV:=Lib.hid hV;clear g13 hc0 hf0 cx cy1 cz1 q0 q1 q3 hqz hvz g1b g3b gV2 hw1;refine wp_region_Z 20 (SmS R 1 b Bp (.slice A m.length c) x g P n pc (λW=>W.cell? ⟨Bv,1,none⟩=some (.int .i64 xn)/\Bv<W.heap.size)) (by kernel_rfl) ?_;rw[<-HV.out];clear hV;refine zu 0 hS0 ?_;refine zu 1 hS0 ?_;refine zu 2 hS0 ?_;refine zu 3 hS0 ?_;refine zu 4 hS0 ?_;refine zu 5 hS0 ?_ (hy:=λW hS=>by obtain ⟨s0, -⟩:=hS;go_simp<;>rfl);refine zu 6 hS0 ?_;refine zu 7 hS0 ?_;refine zu 8 hS0 ?_ (hy:=λW hS=>by obtain ⟨-, -,t0, -⟩:=hS;go_simp<;>rfl);refine zu 9 hS0 ?_;refine zu 10 hS0 ?_;refine zu 11 hS0 ?_ (hy:=λW hS=>by obtain ⟨-, -, -, -, -,⟨t3, -⟩, -⟩:=hS;go_simp<;>rfl);refine zu 12 hS0 ?_;refine zu 13 hS0 ?_ (hy:=λW hS=>by obtain ⟨-, -, -,t1,t2, -⟩:=hS;go_simp<;>rfl);refine zu 14 hS0 ?_;refine zs 15 rfl (λK hK=>?_);simp only[Gl];have hS7:=hS0.gr (Gr.alloc (Gr.refl _) (.cells #[.string x, .int .i64 kd, .int .i64 xn, .int .i64 g, .slice P n pc] 79)) ⟨(bc (Gr.alloc (Gr.refl V) _) hS0.2.2.2.2.2.1.2 hS0.2.2.2.2.2.1.1),by simp;have:=hS0.2.2.2.2.2.1.2;omega⟩;have own7:=ownV.alloc (.cells #[.string x, .int .i64 kd, .int .i64 xn, .int .i64 g, .slice P n pc] 79);have hrx:Rd (V.alloc (.cells #[.string x, .int .i64 kd, .int .i64 xn, .int .i64 g, .slice P n pc] 79)) 5 (some ⟨V.heap.size,0,none⟩) 1 ([.string x, .int .i64 kd, .int .i64 xn, .int .i64 g, .slice P n pc]:List Value):=Rd.newU (W:=V) rfl 79 ([.string x, .int .i64 kd, .int .i64 xn, .int .i64 g, .slice P n pc]:List Value) rfl;clear ownV;go_simp;refine hK.out _ _ (λhnz=>?zs15) (λ_=>?zr15);case zs15=>exact hS7
 clear hK K;try simp only[Pu,Gl]
 refine zs 16 rfl (λK hK=>?_);simp only[Gl];refine wp_append_rdX (.tmp 53) (.tmp 63) 58 rfl B0 79 i0 _ 5 64 Tryz.underlying58 hi0 hz0 hz1 hz2 rfl (by decide) _ m.length _ rfl own7 ⟨V.heap.size,0,none⟩ 1 _ ([.string x, .int .i64 kd, .int .i64 xn, .int .i64 g, .slice P n pc]:List Value) rfl hrx (by decide) (by simp[Value.oneCell']) (by unfold maxLen;omega) (by omega) (by have:=gV.size;simp;omega) ?_;intro v' w9 own9 hgr9 hob9;obtain ⟨A9,c9,hv9⟩:=own_form own9;subst hv9;have hgr9:(V.alloc (.cells #[.string x, .int .i64 kd, .int .i64 xn, .int .i64 g, .slice P n pc] 79)).grownBy w9 (Value.slice A m.length c).ownBlock:=hgr9;have hob9:(Value.slice A9 (m.length+1) c9).ownBlock=(Value.slice A m.length c).ownBlock\/(Value.slice A9 (m.length+1) c9).ownBlock=some (V.alloc (.cells #[.string x, .int .i64 kd, .int .i64 xn, .int .i64 g, .slice P n pc] 79)).heap.size:=hob9;have Hg9:=Lib.hid (And.intro own9 (And.intro hgr9 hob9));rw[own_blk] at hgr9;have hS9:=hS7.kept hgr9.size (hgr9.block R hS7.2.2.2.2.2.2.1 (λe=>by have:=(hvl R (by rw[own_blk];exact e.symm)).1;omega)) (hgr9.block b hS7.2.2.2.2.2.2.2.1 HbA.out.2) (hgr9.block Bp hS7.2.2.2.2.2.2.2.2 (λe=>by have:=(hvl Bp (by rw[own_blk];exact e.symm)).2;omega)) ⟨(World.cell?_of_block (a:=⟨Bv,1,none⟩) (hgr9.block Bv hS7.2.2.2.2.2.1.2 (λe=>by have:=(hvl Bv (by rw[own_blk];exact e.symm)).2;omega))).trans hS7.2.2.2.2.2.1.1,Nat.lt_of_lt_of_le hS7.2.2.2.2.2.1.2 hgr9.size⟩;clear own9 hgr9 hob9 hS7 own7 hrx;refine hK.out _ _ (λhnz=>?zs16) (λ_=>?zr16);case zs16=>exact hS9
 clear hK K;try simp only[Pu,Gl]
 refine zs 17 rfl (λK hK=>?_);simp only[Gl];go_simp;refine hK.out _ _ (λhnz=>?zs17) (λ_=>?zr17);case zs17=>exact hS9
 clear hK K;try simp only[Pu,Gl]
 refine zs 18 rfl (λK hK=>?_);simp only[Gl];go_simp;refine hK.out _ _ (λhnz=>?zs18) (λ_=>?zr18);case zs18=>exact hS9
 clear hK K;try simp only[Pu,Gl]
 refine zs 19 rfl (λK hK=>?_);simp only[Gl];go_simp;refine hK.out _ _ (λhnz=>?zs19) (λ_=>?zr19);case zs19=>exact hS9
 clear hK K;try simp only[Pu,Gl]
 refine zs 20 rfl (λK hK=>?_);simp only[Gl];obtain ⟨s0,s1, -, -, -, -,hzR, -, -⟩:=id hS9;go_simp;refine hK.out _ _ (λhnz=>?zs20) (λ_=>?zr20);case zs20=>exact absurd rfl hnz
 clear hK K;try simp only[Pu,Gl]
 refine wpAnyZ_done (by kernel_rfl) ?_ _;clear s1;go_wp2;go_ret;obtain ⟨own9,hgr9,hob9⟩:=Hg9.out;have gVV:Gr wr (V.alloc (.cells #[.string x, .int .i64 kd, .int .i64 xn, .int .i64 g, .slice P n pc] 79)):=gV.alloc _;obtain ⟨f1,f2⟩:=Hh.out.pushR gVV ⟨x,kd,xn,P,pc⟩ (by simpa [Ru.code,Ru.g,<-HG.out.1,<-HG.out.2] using own9) hgr9 hob9 (Rd.gr Hok.out.1 (Gr.alloc (Gr.refl V) _)) Hok.out.2;exact ⟨rfl,⟨x,kd,xn,P,pc⟩,_,rfl,rfl,rfl,f1,f2⟩
end Go.Proofs.YtjapddfnpmlifaaGreatDoor
