import Derived.WalkKit
import Derived.Test.YtjapddfnpmlifaaGreatDoorRuShelf
import Derived.Test.YtjapddfnpmlifaaGreatDoorRunFxBase
import Derived.Lib.Hide
import Derived.Lib.IndexBytes
set_option linter.all false
set_option maxRecDepth 1000000
set_option maxHeartbeats 12800000
namespace Go.Proofs.YtjapddfnpmlifaaGreatDoor
open Go.RowKit
def isDg (c:UInt8):Bool:=Nat.ble 48 c.toNat&&Nat.ble c.toNat 57
theorem isDg_iff (c:UInt8):isDg c=true↔48<=c.toNat/\c.toNat<=57:=by simp[isDg,Nat.ble_eq]
theorem isDg_not (c:UInt8):isDg c=false↔c.toNat<48\/57<c.toNat:=by
 rw[Bool.eq_false_iff,ne_eq,isDg_iff];omega
def allDg (l:List UInt8):Bool:=l.all isDg && !l.isEmpty
def maxN:Nat:=4611686018427387904
def numS:List UInt8->Nat->Option Nat
 | [],n=>some n
 | c::r,n=>bif Nat.blt ((maxN-(c.toNat-48))/10) n then none else numS r (n*10+(c.toNat-48))
def stripS:List UInt8->List UInt8
 | []=>[]
 | [c]=>[c]
 | c::d::r=>bif c==48 then stripS (d::r) else c::d::r
def minusS (l:List UInt8):Bool:=match l with|[]=>false|c::_=>c==45
def tailS (l:List UInt8):List UInt8:=bif minusS l then l.drop 1 else l
def wholeN (l:List UInt8):Option Nat:=bif allDg (tailS l) then numS (tailS l) 0 else none
def wholeS (l:List UInt8):Option Int:=(wholeN l).map λn:Nat=>bif minusS l then -(n:Int) else (n:Int)
theorem numS_le (l:List UInt8):∀n m,numS l n=some m->(l=[]->n<=maxN)->l.all isDg=true->m<=maxN/\n*10^l.length<=m:=by
 induction l with
 | nil=>intro n m h h0 _;simp only[numS,Option.some.injEq] at h;subst h;exact ⟨h0 rfl,by simp⟩
 | cons c r ih=>
  intro n m h _ hd;unfold numS at h;simp only[List.all_cons,Bool.and_eq_true,isDg_iff] at hd;cases hb:Nat.blt ((maxN-(c.toNat-48))/10) n
  ·rw[hb] at h;simp only[cond_false] at h;have hle:n<=(maxN-(c.toNat-48))/10:=by
    rcases Nat.lt_or_ge ((maxN-(c.toNat-48))/10) n with h1|h1
    ·rw[<-Nat.blt_eq] at h1;rw[h1] at hb;cases hb
    ·exact h1
   obtain ⟨h2,h3⟩:=ih _ _ h (λ_=>by unfold maxN at *;omega) hd.2;refine ⟨h2,Nat.le_trans ?_ h3⟩;rw[List.length_cons,Nat.pow_succ,Nat.mul_comm (10^r.length) 10,<-Nat.mul_assoc];exact Nat.mul_le_mul_right _ (Nat.le_add_right _ _)
  ·rw[hb] at h;cases h
theorem strip_all:∀l:List UInt8,l.all isDg=true->(stripS l).all isDg=true
 | [],_=>rfl
 | [c],h=>h
 | c::d::r,h=>by
  unfold stripS;cases (c==48)
  ·exact h
  ·simp only[List.all_cons,Bool.and_eq_true] at h;exact strip_all (d::r) (by simp only[List.all_cons,Bool.and_eq_true];exact h.2)
theorem strip_num:∀l:List UInt8,numS (stripS l) 0=numS l 0
 | []=>rfl
 | [c]=>rfl
 | c::d::r=>by
  unfold stripS;cases hc:(c==48)
  ·rfl
  ·simp only[cond_true];rw[strip_num (d::r)];have:c=48:=by simpa using hc
   subst this
   conv=>rhs;unfold numS
   rfl
theorem strip_head:∀l:List UInt8,∀c d r,stripS l=c::d::r->c≠48
 | [],_,_,_,h=>by cases h
 | [_],_,_,_,h=>by cases h
 | a::b::t,c,d,r,h=>by
  unfold stripS at h;cases hc:(a==48)
  ·rw[hc] at h;simp only[cond_false] at h;injection h with h1 h2;subst h1;simpa using hc
  ·rw[hc] at h;exact strip_head (b::t) c d r h
theorem strip_long (l:List UInt8) (hd:l.all isDg=true) (h:19<(stripS l).length):numS l 0=none:=by
 rw[<-strip_num];have hd2:=strip_all l hd;have hh:=strip_head l;generalize stripS l=t at *;match t,h with
 | c::d::r,h=>
  have hc:=hh c d r rfl;simp only[List.all_cons,Bool.and_eq_true,isDg_iff] at hd2;have hc1:49<=c.toNat:=by
   have:c.toNat≠48:=λe=>hc (by rw[<-UInt8.toNat_inj];exact e);omega
  unfold numS;rw[show Nat.blt ((maxN-(c.toNat-48))/10) 0=false from rfl];simp only[cond_false];cases e:numS (d::r) (0*10+(c.toNat-48)) with
  | none=>rfl
  | some m=>
   obtain ⟨h2,h3⟩:=numS_le _ _ _ e (λh=>by cases h) (by simp only[List.all_cons,Bool.and_eq_true,isDg_iff];exact hd2.2);exfalso;have h4:1*10^19<=(0*10+(c.toNat-48))*10^(d::r).length:=by
    refine Nat.mul_le_mul (by omega) (Nat.pow_le_pow_right (by decide) ?_);simp at h ⊢;omega
   have h5:maxN<1*10^19:=by decide
   omega
def dgN:List UInt8->Nat
 | []=>0
 | c::r=>bif isDg c then dgN r+1 else 0
theorem dgN_le:∀l,dgN l<=l.length
 | []=>Nat.le_refl _
 | c::r=>by
  unfold dgN;cases isDg c
  ·simp
  ·simp only[cond_true,List.length_cons];have:=dgN_le r;omega
theorem dgN_take:∀l:List UInt8,(l.take (dgN l)).all isDg=true
 | []=>rfl
 | c::r=>by
  unfold dgN;cases h:isDg c
  ·rfl
  ·simp only[cond_true,List.take_succ_cons,List.all_cons,Bool.and_eq_true];exact ⟨h,dgN_take r⟩
def names:List (List (List UInt8)×Nat):=[
 ([[115],[115,101,99],[115,101,99,115],[115,101,99,111,110,100],[115,101,99,111,110,100,115]],1),
 ([[109,105,110],[109,105,110,115],[109,105,110,117,116,101],[109,105,110,117,116,101,115]],60),
 ([[104],[104,111,117,114],[104,111,117,114,115]],3600),
 ([[100],[100,97,121],[100,97,121,115]],86400),
 ([[119],[119,101,101,107],[119,101,101,107,115]],604800),
 ([[109,111,110],[109,111,110,116,104],[109,111,110,116,104,115]],2592000),
 ([[121],[121,101,97,114],[121,101,97,114,115]],31536000)]
def inLU (l:List UInt8) (m:List (List UInt8)):Bool:=m.any λx=>x==l
def unitF (l:List UInt8):List (List (List UInt8)×Nat)->Nat
 | []=>0
 | (m,u)::r=>bif inLU l m then u else unitF l r
def unitS (l:List UInt8):Nat:=unitF l names
def maxTime:Nat:=4294967295
def intvS (l:List UInt8):Option Nat:=
 match wholeN (l.take (dgN l)) with
 | none=>none
 | some n=>bif unitS (l.drop (dgN l))==0 then none else bif Nat.blt (maxTime/unitS (l.drop (dgN l))) n then none else some (n*unitS (l.drop (dgN l)))
def signB (l:List UInt8):Bool:=match l with|[]=>true|c::_=>c==45||c==43
def unsS (l:List UInt8):Option (Nat×Bool):=
 bif signB l then none else
 match wholeN l with
 | some n=>some (n,false)
 | none=>(intvS l).map λn=>(n,true)
def cutS (c:UInt8):List UInt8->Option (List UInt8×List UInt8)
 | []=>none
 | x::r=>bif x==c then some ([],r) else (cutS c r).map λp=>(x::p.1,p.2)
def partS (c:UInt8):List UInt8->List (List UInt8)
 | []=>[[]]
 | x::r=>bif x==c then []::partS c r else match partS c r with
  | []=>[[x]]
  | p::m=>(x::p)::m
def archS (l:List UInt8):Option (Nat×Nat):=
 match cutS 58 l with
 | none=>none
 | some (a,b)=>match unsS a,unsS b with
  | some (step,_),some (n,long)=>bif step==0 then none else some (step,bif long then n/step else n)
  | _,_=>none
def fitsS (a b:Nat×Nat):Bool:=Nat.blt a.1 b.1&&b.1%a.1==0&&Nat.blt (a.1*a.2) (b.1*b.2)&&Nat.ble (b.1/a.1) a.2
def oneOk (a:Nat×Nat):Bool:=Nat.ble 1 a.1&&Nat.ble a.1 16777216&&Nat.ble 1 a.2&&Nat.ble a.2 16777216
def rowOk (a:Nat×Nat):List (Nat×Nat)->Bool
 | []=>true
 | b::r=>oneOk b&&fitsS a b&&rowOk b r
def sizeS (l:List (Nat×Nat)):Nat:=16+(l.map λa=>12+12*a.2).sum
def lastS (l:List (Nat×Nat)):Nat×Nat:=l.getLastD (0,0)
def mayS (l:List (Nat×Nat)):Bool:=Nat.ble l.length 8&&(match l with|[]=>false|a::r=>oneOk a&&rowOk a r)&&Nat.ble (sizeS l) 1048576&&Nat.ble ((lastS l).1*(lastS l).2) maxTime
def archsS:List (List UInt8)->Option (List (Nat×Nat))
 | []=>some []
 | p::m=>match archS p with
  | none=>none
  | some a=>(archsS m).map λl=>a::l
def retS (l:List UInt8):Option (List (Nat×Nat)):=
 match archsS (partS 44 l) with
 | none=>none
 | some m=>bif mayS m then some m else none

theorem known_25:retS [49,48,115,58,49,109,105,110,44,49,109,105,110,58,49,104]=some [(10,6),(60,60)]:=by kernel_rfl
theorem wholeN_le {l:List UInt8} {n:Nat} (h:wholeN l=some n):n<=maxN:=by
 unfold wholeN at h;cases e:allDg (tailS l)
 ·rw[e] at h;cases h
 ·rw[e] at h;simp only[allDg,Bool.and_eq_true] at e;exact (numS_le _ _ _ h (λh=>by rw[h] at e;simp at e) e.1).1
theorem intvS_le {l:List UInt8} {n:Nat} (h:intvS l=some n):n<=maxTime:=by
 unfold intvS at h;split at h
 ·cases h
 ·rename_i m hm;generalize unitS (l.drop (dgN l))=u at h;cases hu:(u==0)
  ·rw[hu] at h;simp only[cond_false] at h;cases hb:Nat.blt (maxTime/u) m
   ·rw[hb] at h;simp only[cond_false,Option.some.injEq] at h;have hle:m<=maxTime/u:=by
     rcases Nat.lt_or_ge (maxTime/u) m with h1|h1
     ·rw[<-Nat.blt_eq] at h1;rw[h1] at hb;cases hb
     ·exact h1
    rw[<-h];exact Nat.le_trans (Nat.mul_le_mul_right u hle) (Nat.div_mul_le_self _ _)
   ·rw[hb] at h;cases h
  ·rw[hu] at h;cases h
theorem unsS_le {l:List UInt8} {n:Nat} {b:Bool} (h:unsS l=some (n,b)):n<=maxN:=by
 unfold unsS at h;cases e:signB l
 ·rw[e] at h;simp only[cond_false] at h;split at h
  ·rename_i m hm;injection h with h;injection h with h1 h2;subst h1;exact wholeN_le hm
  ·cases hi:intvS l with
   | none=>rw[hi] at h;cases h
   | some m=>
    rw[hi] at h;injection h with h;injection h with h1 h2;subst h1;exact Nat.le_trans (intvS_le hi) (by decide)
 ·rw[e] at h;cases h
theorem toList_data_ru (s:ByteArray):s.toList=s.data.toList:=by first|exact Lib.toList_data s|exact ByteArray.toList_eq
theorem ne_nil {s:ByteArray} (h:¬s.size=0):s.data.toList≠[]:=λe=>h (by show s.data.size=0;rw[<-Array.length_toList,e];rfl)
theorem ret_b {a b:Bool} (h:a=b):Ending.returned (.bool a)= .returned (.bool b):=by rw[h]
theorem all_take (s:ByteArray) (k:Nat) (h:k<s.size):(s.data.toList.take (k+1)).all isDg=((s.data.toList.take k).all isDg&&isDg s[k]):=by
 rw[List.take_succ_eq_append_getElem (by simpa using h),List.all_append];simp only[List.all_cons,List.all_nil,Bool.and_true];rfl
theorem all_no {l:List UInt8} {k:Nat} {b:Bool} (h:(l.take (k+1)).all isDg=(b&&false)):allDg l=false:=by
 have h1:(l.take (k+1)).all isDg=false:=by rw[h];cases b<;>rfl
 unfold allDg;rw[Bool.and_eq_false_iff];left;cases e:l.all isDg with
 | false=>rfl
 | true=>
  have:=List.all_eq_true.1 e;rw[List.all_eq_true.2 (λx hx=>this x (List.mem_of_mem_take hx))] at h1;cases h1
theorem dec_digit (c:UInt8) (w:World):Calls Tryz.prog 112 #[.int .u8 c.toNat] w λe w'=>e= .returned (.bool (isDg c))/\w=w':=by
 cases hc:isDg c
 ·rcases (isDg_not c).1 hc with h|h
  ·have h1:¬(48:Int)<=(c.toNat:Int):=by omega
   clear hc h;go_enter Tryz.func112,Tryz.ntmps112;go_wp2;go_ret;exact ⟨rfl,rfl⟩
  ·have h1:(48:Int)<=(c.toNat:Int):=by omega
   have h2:¬(c.toNat:Int)<=57:=by omega
   clear hc h;go_enter Tryz.func112,Tryz.ntmps112;go_wp2;go_ret;exact ⟨rfl,rfl⟩
 ·obtain ⟨a,b⟩:=(isDg_iff c).1 hc;have h1:(48:Int)<=(c.toNat:Int):=by omega
  have h2:(c.toNat:Int)<=57:=by omega
  clear hc a b;go_enter Tryz.func112,Tryz.ntmps112;go_wp2;go_ret;exact ⟨rfl,rfl⟩
theorem span_digit (c:UInt8) (w:World):Calls Tryz.prog 142 #[.int .u8 c.toNat] w λe w'=>e= .returned (.bool (isDg c))/\w=w':=by
 cases hc:isDg c
 ·rcases (isDg_not c).1 hc with h|h
  ·have h1:¬(48:Int)<=(c.toNat:Int):=by omega
   clear hc h;go_enter Tryz.func142,Tryz.ntmps142;go_wp2;go_ret;exact ⟨rfl,rfl⟩
  ·have h1:(48:Int)<=(c.toNat:Int):=by omega
   have h2:¬(c.toNat:Int)<=57:=by omega
   clear hc h;go_enter Tryz.func142,Tryz.ntmps142;go_wp2;go_ret;exact ⟨rfl,rfl⟩
 ·obtain ⟨a,b⟩:=(isDg_iff c).1 hc;have h1:(48:Int)<=(c.toNat:Int):=by omega
  have h2:(c.toNat:Int)<=57:=by omega
  clear hc a b;go_enter Tryz.func142,Tryz.ntmps142;go_wp2;go_ret;exact ⟨rfl,rfl⟩
theorem ref2_digit (c:UInt8) (w:World):Calls Tryz.prog 101 #[.int .u8 c.toNat] w λe w'=>e= .returned (.bool (isDg c))/\w=w':=by
 cases hc:isDg c
 ·rcases (isDg_not c).1 hc with h|h
  ·have h1:¬(48:Int)<=(c.toNat:Int):=by omega
   clear hc h;go_enter Tryz.func101,Tryz.ntmps101;go_wp2;go_ret;exact ⟨rfl,rfl⟩
  ·have h1:(48:Int)<=(c.toNat:Int):=by omega
   have h2:¬(c.toNat:Int)<=57:=by omega
   clear hc h;go_enter Tryz.func101,Tryz.ntmps101;go_wp2;go_ret;exact ⟨rfl,rfl⟩
 ·obtain ⟨a,b⟩:=(isDg_iff c).1 hc;have h1:(48:Int)<=(c.toNat:Int):=by omega
  have h2:(c.toNat:Int)<=57:=by omega
  clear hc a b;go_enter Tryz.func101,Tryz.ntmps101;go_wp2;go_ret;exact ⟨rfl,rfl⟩
theorem ref16_digit (c:UInt8) (w:World):Calls Tryz.prog 127 #[.int .u8 c.toNat] w λe w'=>e= .returned (.bool (isDg c))/\w=w':=by
 cases hc:isDg c
 ·rcases (isDg_not c).1 hc with h|h
  ·have h1:¬(48:Int)<=(c.toNat:Int):=by omega
   clear hc h;go_enter Tryz.func127,Tryz.ntmps127;go_wp2;go_ret;exact ⟨rfl,rfl⟩
  ·have h1:(48:Int)<=(c.toNat:Int):=by omega
   have h2:¬(c.toNat:Int)<=57:=by omega
   clear hc h;go_enter Tryz.func127,Tryz.ntmps127;go_wp2;go_ret;exact ⟨rfl,rfl⟩
 ·obtain ⟨a,b⟩:=(isDg_iff c).1 hc;have h1:(48:Int)<=(c.toNat:Int):=by omega
  have h2:(c.toNat:Int)<=57:=by omega
  clear hc a b;go_enter Tryz.func127,Tryz.ntmps127;go_wp2;go_ret;exact ⟨rfl,rfl⟩
theorem dec_all (s:ByteArray) (hs:(s.size:Int)<=4096) (w:World):Calls Tryz.prog 84 #[.string s] w λe w'=>e= .returned (.bool (allDg s.data.toList))/\w=w':=by
 go_enter Tryz.func84,Tryz.ntmps84;go_wp2
 go_loop [6] (λi=>∃k:Nat,k<=s.size/\i= .int .i64 k/\(s.data.toList.take k).all isDg=true) (λi=>s.size-(intOf i).toNat)
 case atStart=>exact ⟨0,Nat.zero_le _,rfl,rfl⟩
 case round=>
  obtain ⟨k,hk,rfl,ha⟩:=hrel;have Ha:=Lib.hid ha;clear ha;by_cases hlt:k<s.size
  ·have hlt':(k:Int)<(s.size:Int):=by omega
   have ht:=all_take s k hlt;have HD:=dec_digit s[k];cases hd:isDg s[k]
   ·rw[hd] at HD ht;have hn:allDg s.data.toList=false:=all_no ht;have Hn:=Lib.hid hn;clear ht hd hn;go_wp2_with (go_at_call 112;refine (HD _).mono ?_;rintro e w' ⟨rfl,rfl⟩);go_ret;exact ⟨ret_b Hn.out.symm,rfl⟩
   ·rw[hd] at HD ht;have Ht:=Lib.hid ht;clear ht hd;go_wp2_with (go_at_call 112;refine (HD _).mono ?_;rintro e w' ⟨rfl,rfl⟩);go_round;case rel=>exact ⟨k+1,by omega,by go_num,by rw[Ht.out,Ha.out];rfl⟩
    case measure=>simp[intOf];omega
  ·have hks:k=s.size:=by omega
   have hge:¬(k:Int)<(s.size:Int):=by omega
   have hall:s.data.toList.all isDg=true:=by
    have:=Ha.out
    rwa [List.take_of_length_le (by simp;omega)] at this
   have Hall:=Lib.hid hall;clear hall hks;by_cases h0:s.size=0
   ·obtain rfl:s=⟨#[]⟩:=by
     apply ByteArray.ext;apply Array.eq_empty_of_size_eq_zero;exact h0
    clear h0;go_wp2;go_ret;exact ⟨rfl,rfl⟩
   ·have e0:allDg s.data.toList=true:=by
     unfold allDg;rw[Hall.out,Bool.true_and,Bool.not_eq_true',List.isEmpty_eq_false_iff];exact ne_nil h0
    have E0:=Lib.hid e0;have n1:s.toList.isEmpty=false:=by rw[toList_data_ru];rw[List.isEmpty_eq_false_iff];exact ne_nil h0
    have n2:s.data.toList.isEmpty=false:=by rw[List.isEmpty_eq_false_iff];exact ne_nil h0
    have n3:(s.toList==[])=false:=by rw[toList_data_ru,beq_eq_false_iff_ne];exact ne_nil h0
    have n4:(0:Int)<(s.size:Int):=by omega
    clear h0 e0;go_wp2;go_ret;first|exact ⟨ret_b E0.out.symm,rfl⟩|exact ⟨ret_b (by rw[E0.out];exact decide_eq_true (by omega)),rfl⟩
theorem ret2 {a b:Int} {c d:Bool} (h:a=b) (k:c=d):Ending.returned (.tuple #[.int .i64 a, .bool c])= .returned (.tuple #[.int .i64 b, .bool d]):=by rw[h,k]
theorem numS_cons (c:UInt8) (r:List UInt8) (n:Nat) (h1:48<=c.toNat) (h2:c.toNat<=57) (hn:n<=maxN):((4611686018427387904-((c.toNat:Int)-48))/10<(n:Int)->numS (c::r) n=none)/\(¬(4611686018427387904-((c.toNat:Int)-48))/10<(n:Int)->numS (c::r) n=numS r (n*10+(c.toNat-48))/\n*10+(c.toNat-48)<=maxN):=by
 have e:(4611686018427387904-((c.toNat:Int)-48))/10=(((maxN-(c.toNat-48))/10:Nat):Int):=by
  show _=(((4611686018427387904-(c.toNat-48))/10:Nat):Int)
  omega
 rw[e];constructor
 ·intro h;unfold numS;rw[show Nat.blt ((maxN-(c.toNat-48))/10) n=true by rw[Nat.blt_eq];omega];rfl
 ·intro h;constructor
  ·conv=>lhs;unfold numS
   rw[show Nat.blt ((maxN-(c.toNat-48))/10) n=false by rw[Bool.eq_false_iff,ne_eq,Nat.blt_eq];omega];rfl
  ·have h9:n<=(maxN-(c.toNat-48))/10:=by omega
   clear e h;show _<=4611686018427387904;have h9:n<=(4611686018427387904-(c.toNat-48))/10:=h9;omega
def RetN (x:Option Nat) (w:World) (e:Ending) (w':World):Prop:=e= .returned (.tuple #[.int .i64 (x.getD 0:Nat), .bool x.isSome])/\w=w'
theorem RetN.some' {x:Option Nat} {n:Nat} {w:World} (h:x=some n):RetN x w (.returned (.tuple #[.int .i64 (n:Int), .bool true])) w:=by subst h;exact ⟨rfl,rfl⟩
theorem RetN.none' {x:Option Nat} {w:World} (h:x=none):RetN x w (.returned (.tuple #[.int .i64 0, .bool false])) w:=by subst h;exact ⟨rfl,rfl⟩
theorem dec_number (s:ByteArray) (hs:(s.size:Int)<=4096) (hd:s.data.toList.all isDg=true) (w:World):Calls Tryz.prog 85 #[.string s] w (RetN (numS s.data.toList 0) w):=by
 have Hd:=Lib.hid hd;clear hd;go_enter Tryz.func85,Tryz.ntmps85;go_wp2
 go_loop [4,9] (λv i=>∃k n:Nat,k<=s.size/\i= .int .i64 k/\v= .int .i64 n/\n<=maxN/\numS (s.data.toList.drop k) n=numS s.data.toList 0) (λ_ i=>s.size-(intOf i).toNat)
 case atStart=>exact ⟨0,0,Nat.zero_le _,rfl,rfl,Nat.zero_le _,rfl⟩
 case round=>
  obtain ⟨k,n,hk,rfl,rfl,hn,he⟩:=hrel;have hn1:(n:Int)<=4611686018427387904:=by have:n<=4611686018427387904:=hn;omega
  have He:=Lib.hid he;have Hn:=Lib.hid hn;clear he hn;by_cases hlt:k<s.size
  ·have hlt':(k:Int)<(s.size:Int):=by omega
   have hd:=Hd.out;have hsl:s.data.toList.length=s.size:=by simp
   obtain ⟨c,hc⟩:∃c,c=s[k]:=⟨_,rfl⟩
   have hdr:s.data.toList.drop k=c::s.data.toList.drop (k+1):=by rw[hc];exact List.drop_eq_getElem_cons (by simpa using hlt)
   have hcd:isDg c=true:=List.all_eq_true.1 hd c (List.mem_of_mem_drop (i:=k) (by rw[hdr];exact List.mem_cons_self));obtain ⟨c1,c2⟩:=(isDg_iff c).1 hcd;obtain ⟨n1,n2⟩:=numS_cons c (s.data.toList.drop (k+1)) n c1 c2 Hn.out;have hc1:(48:Int)<=(s[k].toNat:Int):=by rw[<-hc];omega
   have hc2:(s[k].toNat:Int)<=57:=by rw[<-hc];omega
   rw[hc] at n1 n2 hdr;have e0:=He.out;rw[hdr] at e0;by_cases hb:(4611686018427387904-((s[k].toNat:Int)-48))/10<(n:Int)
   ·have hx:=Lib.hid (e0.symm.trans (n1 hb));clear e0 n1 n2 hdr hcd hd hc c1 c2 hsl;go_wp2;go_ret2;exact RetN.none' hx.out
   ·obtain ⟨n3,n4⟩:=n2 hb;have hx:=Lib.hid (And.intro (n3.symm.trans e0) n4);have hb2:(n:Int)*10+((s[k].toNat:Int)-48)<=4611686018427387904:=by rw[hc] at c1;unfold maxN at n4;omega
    clear e0 n1 n2 n3 n4 hdr hcd hd hc c1 c2 hsl;go_wp2;go_round;case rel=>exact ⟨k+1,n*10+(s[k].toNat-48),by omega,by go_num,by go_num,hx.out.2,hx.out.1⟩
    case measure=>simp[intOf];omega
  ·have hks:k=s.size:=by omega
   have hge:¬(k:Int)<(s.size:Int):=by omega
   have e0:=He.out;rw[List.drop_eq_nil_of_le (by simp;omega)] at e0;have hx:=Lib.hid e0;clear e0 hks;go_wp2;go_ret2;exact RetN.some' hx.out.symm
theorem trim_minus (l:List UInt8):Lib.trimPrefix l [45]=tailS l:=by
 match l with
 | []=>rfl
 | c::r=>
  unfold Lib.trimPrefix tailS minusS;show (if ((45:UInt8)==c&&true)=true then _ else _)=bif c==45 then r else c::r;by_cases h:c=45
  ·subst h;rfl
  ·have h1:(c==45)=false:=beq_eq_false_iff_ne.2 h;have h2:((45:UInt8)==c)=false:=beq_eq_false_iff_ne.2 (Ne.symm h);rw[h1,h2];rfl
def RetV (x:Option Int) (w:World) (e:Ending) (w':World):Prop:=e= .returned (.tuple #[.int .i64 (x.getD 0), .bool x.isSome])/\w=w'
theorem RetV.some' {x:Option Int} {n:Int} {w:World} (h:x=some n):RetV x w (.returned (.tuple #[.int .i64 n, .bool true])) w:=by subst h;exact ⟨rfl,rfl⟩
theorem RetV.none' {x:Option Int} {w:World} (h:x=none):RetV x w (.returned (.tuple #[.int .i64 0, .bool false])) w:=by subst h;exact ⟨rfl,rfl⟩
theorem tail_len (l:List UInt8):(tailS l).length=bif minusS l then l.length-1 else l.length:=by
 unfold tailS;cases minusS l<;>simp
theorem minus_pos {l:List UInt8} (h:minusS l=true):0<l.length:=by
 cases l with
 | nil=>cases h
 | cons c r=>simp
theorem dec_Whole (s:ByteArray) (hs:(s.size:Int)<=4096) (w:World):Calls Tryz.prog 92 #[.string s] w (RetV (wholeS s.data.toList) w):=by
 obtain ⟨d,hd⟩:∃d:ByteArray,d=⟨(Lib.trimPrefix s.data.toList [45]).toArray⟩:=⟨_,rfl⟩
 have hdl:d.data.toList=tailS s.data.toList:=by rw[hd,trim_minus]
 have hsl:s.data.toList.length=s.size:=by simp
 have hds:d.size=bif minusS s.data.toList then s.size-1 else s.size:=by
  have:d.size=d.data.toList.length:=by simp
  rw[this,hdl,tail_len,hsl]
 have hdz:d.size<=s.size:=by rw[hds];cases minusS s.data.toList<;>simp
 have HTP:=Lib.hid (Tryz.strings_TrimPrefix s ⟨#[45]⟩);have HD:=Lib.hid hd;have HA:=Lib.hid (dec_all d (by omega));have HN:=λh w=>dec_number d (by omega) h w;have HW:=Lib.hid (show wholeS s.data.toList=(bif allDg d.data.toList then numS d.data.toList 0 else none).map (λn:Nat=>bif minusS s.data.toList then -(n:Int) else (n:Int)) by rw[hdl];rfl);have HW0:=Lib.hid (show wholeN s.data.toList=(bif allDg d.data.toList then numS d.data.toList 0 else none) by rw[hdl];rfl);clear hd hdl hsl;cases ha:allDg d.data.toList
 ·rw[ha] at HA HW;have hx:Hid (wholeS s.data.toList=none):=Lib.hid HW.out;clear ha HN HW hds;go_enter Tryz.func92,Tryz.ntmps92;go_wp2_with (first|(go_at_call 121;refine (HTP.out _).mono ?_;rintro e w' ⟨rfl,rfl⟩;rw[show (⟨(Lib.trimPrefix s.data.toList (⟨#[45]⟩:ByteArray).data.toList).toArray⟩:ByteArray)=d from HD.out.symm])|(go_at_call 84;refine (HA.out _).mono ?_;rintro e w' ⟨rfl,rfl⟩));go_ret2;exact RetV.none' hx.out
 ·have hall:d.data.toList.all isDg=true:=by unfold allDg at ha;rw[Bool.and_eq_true] at ha;exact ha.1
  have HN2:=Lib.hid (HN hall);rw[ha] at HA HW HW0;have hx:=HW.out;clear ha HN HW hall;rw[cond_true] at hx;cases hnum:numS d.data.toList 0 with
  | none=>
   rw[hnum] at HN2 hx;have hy:Hid (wholeS s.data.toList=none):=Lib.hid hx;clear hnum hx;cases hm:minusS s.data.toList
   ·rw[hm] at hds;have hl:¬(d.size:Int)<(s.size:Int):=by simp only[cond_false] at hds;omega
    clear hds hm;go_enter Tryz.func92,Tryz.ntmps92;go_wp2_with (first|(go_at_call 121;refine (HTP.out _).mono ?_;rintro e w' ⟨rfl,rfl⟩;rw[show (⟨(Lib.trimPrefix s.data.toList (⟨#[45]⟩:ByteArray).data.toList).toArray⟩:ByteArray)=d from HD.out.symm])|(go_at_call 84;refine (HA.out _).mono ?_;rintro e w' ⟨rfl,rfl⟩)|(go_at_call 85;refine (HN2.out _).mono ?_;rintro e w' ⟨rfl,rfl⟩));go_ret2;exact RetV.none' hy.out
   ·have h0:=minus_pos hm;rw[hm] at hds;have hl:(d.size:Int)<(s.size:Int):=by simp at h0;simp only[cond_true] at hds;omega
    clear hds hm h0;go_enter Tryz.func92,Tryz.ntmps92;go_wp2_with (first|(go_at_call 121;refine (HTP.out _).mono ?_;rintro e w' ⟨rfl,rfl⟩;rw[show (⟨(Lib.trimPrefix s.data.toList (⟨#[45]⟩:ByteArray).data.toList).toArray⟩:ByteArray)=d from HD.out.symm])|(go_at_call 84;refine (HA.out _).mono ?_;rintro e w' ⟨rfl,rfl⟩)|(go_at_call 85;refine (HN2.out _).mono ?_;rintro e w' ⟨rfl,rfl⟩));go_ret2;exact RetV.none' hy.out
  | some n=>
   rw[hnum] at HN2 hx;have hnle:n<=maxN:=wholeN_le (l:=s.data.toList) (by rw[HW0.out,hnum];rfl);have hn1:(n:Int)<=4611686018427387904:=by have:n<=4611686018427387904:=hnle;omega
   cases hm:minusS s.data.toList
   ·rw[hm] at hds hx;have hl:¬(d.size:Int)<(s.size:Int):=by simp only[cond_false] at hds;omega
    have hy:Hid (wholeS s.data.toList=some (n:Int)):=Lib.hid hx;clear hds hm hx hnum hnle;go_enter Tryz.func92,Tryz.ntmps92;go_wp2_with (first|(go_at_call 121;refine (HTP.out _).mono ?_;rintro e w' ⟨rfl,rfl⟩;rw[show (⟨(Lib.trimPrefix s.data.toList (⟨#[45]⟩:ByteArray).data.toList).toArray⟩:ByteArray)=d from HD.out.symm])|(go_at_call 84;refine (HA.out _).mono ?_;rintro e w' ⟨rfl,rfl⟩)|(go_at_call 85;refine (HN2.out _).mono ?_;rintro e w' ⟨rfl,rfl⟩));go_ret2;exact RetV.some' hy.out
   ·have h0:=minus_pos hm;rw[hm] at hds hx;have hl:(d.size:Int)<(s.size:Int):=by simp at h0;simp only[cond_true] at hds;omega
    have hy:Hid (wholeS s.data.toList=some (-(n:Int))):=Lib.hid hx;clear hds hm h0 hx hnum hnle;go_enter Tryz.func92,Tryz.ntmps92;go_wp2_with (first|(go_at_call 121;refine (HTP.out _).mono ?_;rintro e w' ⟨rfl,rfl⟩;rw[show (⟨(Lib.trimPrefix s.data.toList (⟨#[45]⟩:ByteArray).data.toList).toArray⟩:ByteArray)=d from HD.out.symm])|(go_at_call 84;refine (HA.out _).mono ?_;rintro e w' ⟨rfl,rfl⟩)|(go_at_call 85;refine (HN2.out _).mono ?_;rintro e w' ⟨rfl,rfl⟩));go_ret2;exact RetV.some' hy.out
theorem ref2_all (s:ByteArray) (hs:(s.size:Int)<=4096) (w:World):Calls Tryz.prog 67 #[.string s] w λe w'=>e= .returned (.bool (allDg s.data.toList))/\w=w':=by
 go_enter Tryz.func67,Tryz.ntmps67;go_wp2
 go_loop [3] (λi=>∃k:Nat,k<=s.size/\i= .int .i64 k/\(s.data.toList.take k).all isDg=true) (λi=>s.size-(intOf i).toNat)
 case atStart=>exact ⟨0,Nat.zero_le _,rfl,rfl⟩
 case round=>
  obtain ⟨k,hk,rfl,ha⟩:=hrel;have Ha:=Lib.hid ha;clear ha;by_cases hlt:k<s.size
  ·have hlt':(k:Int)<(s.size:Int):=by omega
   have ht:=all_take s k hlt;have HD:=ref2_digit s[k];cases hd:isDg s[k]
   ·rw[hd] at HD ht;have hn:allDg s.data.toList=false:=all_no ht;have Hn:=Lib.hid hn;clear ht hd hn;go_wp2_with (go_at_call 101;refine (HD _).mono ?_;rintro e w' ⟨rfl,rfl⟩);go_ret;exact ⟨ret_b Hn.out.symm,rfl⟩
   ·rw[hd] at HD ht;have Ht:=Lib.hid ht;clear ht hd;go_wp2_with (go_at_call 101;refine (HD _).mono ?_;rintro e w' ⟨rfl,rfl⟩);go_round;case rel=>exact ⟨k+1,by omega,by go_num,by rw[Ht.out,Ha.out];rfl⟩
    case measure=>simp[intOf];omega
  ·have hks:k=s.size:=by omega
   have hge:¬(k:Int)<(s.size:Int):=by omega
   have hall:s.data.toList.all isDg=true:=by
    have:=Ha.out
    rwa [List.take_of_length_le (by simp;omega)] at this
   have Hall:=Lib.hid hall;clear hall hks;by_cases h0:s.size=0
   ·obtain rfl:s=⟨#[]⟩:=by
     apply ByteArray.ext;apply Array.eq_empty_of_size_eq_zero;exact h0
    clear h0;go_wp2;go_ret;exact ⟨rfl,rfl⟩
   ·have e0:allDg s.data.toList=true:=by
     unfold allDg;rw[Hall.out,Bool.true_and,Bool.not_eq_true',List.isEmpty_eq_false_iff];exact ne_nil h0
    have E0:=Lib.hid e0;have n1:s.toList.isEmpty=false:=by rw[toList_data_ru];rw[List.isEmpty_eq_false_iff];exact ne_nil h0
    have n2:s.data.toList.isEmpty=false:=by rw[List.isEmpty_eq_false_iff];exact ne_nil h0
    have n3:(s.toList==[])=false:=by rw[toList_data_ru,beq_eq_false_iff_ne];exact ne_nil h0
    have n4:(0:Int)<(s.size:Int):=by omega
    clear h0 e0;go_wp2;go_ret;first|exact ⟨ret_b E0.out.symm,rfl⟩|exact ⟨ret_b (by rw[E0.out];exact decide_eq_true (by omega)),rfl⟩
def headC (n:UInt8) (l:List UInt8):Bool:=match l with|[]=>false|c::_=>c==n
theorem strip_step {l:List UInt8} (h:1<l.length):(headC 48 l=true->stripS l=stripS (l.drop 1))/\(headC 48 l=false->stripS l=l):=by
 match l,h with
 | c::d::r,_=>
  constructor
  ·intro h
   conv=>lhs;unfold stripS
   rw[show (c==48)=true from h];rfl
  ·intro h
   conv=>lhs;unfold stripS
   rw[show (c==48)=false from h];rfl
theorem strip_short {l:List UInt8} (h:l.length<=1):stripS l=l:=by
 match l,h with
 | [],_=>rfl
 | [c],_=>rfl
theorem strip_len (l:List UInt8):(stripS l).length<=l.length:=by
 match l with
 | []=>exact Nat.le_refl _
 | [c]=>exact Nat.le_refl _
 | c::d::r=>
  unfold stripS;cases (c==48)
  ·exact Nat.le_refl _
  ·have:=strip_len (d::r);simp only[cond_true,List.length_cons] at this ⊢;omega
theorem headC_at (s:ByteArray) (h:0<s.size) (n:UInt8):headC n s.data.toList=(s[0]==n):=by
 have hl:0<s.data.toList.length:=by simpa using h
 have:s.data.toList=s[0]::s.data.toList.drop 1:=by
  have:=List.drop_eq_getElem_cons hl
  rwa [List.drop_zero] at this
 rw[this];rfl
def RetS (l:List UInt8) (w:World) (e:Ending) (w':World):Prop:=∃sb:ByteArray,e= .returned (.string sb)/\sb.data.toList=l/\w=w'
theorem ref2_strip (s:ByteArray) (hs:(s.size:Int)<=4096) (w:World):Calls Tryz.prog 69 #[.string s] w (RetS (stripS s.data.toList) w):=by
 go_enter Tryz.func69,Tryz.ntmps69;go_wp2
 go_loop [0] (λv=>∃sb:ByteArray,v= .string sb/\(sb.size:Int)<=4096/\stripS sb.data.toList=stripS s.data.toList) (λv=>match v with| .string sb=>sb.size|_=>0)
 case atStart=>exact ⟨s,rfl,hs,rfl⟩
 case round=>
  obtain ⟨sb,rfl,hsb,he⟩:=hrel;have He:=Lib.hid he;clear he;by_cases h1:1<sb.size
  ·have h1i:(1:Int)<(sb.size:Int):=by omega
   have hst:=strip_step (l:=sb.data.toList) (by simpa using h1);rw[headC_at sb (by omega)] at hst;by_cases hc:sb[0]=48
   ·have hb:(sb[0]==48)=true:=by rw[hc];rfl
    have hi:((sb[0].toNat:Int)==48)=true:=by rw[hc];rfl
    have hn:stripS (sb.extract 1 sb.size).data.toList=stripS s.data.toList:=by
     rw[Lib.extract_to_end,<-hst.1 hb];exact He.out
    have hz:(sb.extract 1 sb.size).size=sb.size-1:=by rw[ByteArray.size_extract];omega
    have Hx:=Lib.hid (And.intro hn hz);clear hst hb hc hn hz;go_wp2;go_round;case rel=>exact ⟨_,rfl,by have:=Hx.out.2;omega,Hx.out.1⟩
    case measure=>have:=Hx.out.2;simp;omega
   ·have hb:(sb[0]==48)=false:=beq_eq_false_iff_ne.2 hc;have hi:((sb[0].toNat:Int)==48)=false:=by
     rw[beq_eq_false_iff_ne];intro e;apply hc;rw[<-UInt8.toNat_inj];show _=48;omega
    have hn:=hst.2 hb;rw[He.out] at hn;have Hx:=Lib.hid hn;clear hst hb hc hn;go_wp2;go_ret;exact ⟨sb,rfl,Hx.out.symm,rfl⟩
  ·have h1i:¬(1:Int)<(sb.size:Int):=by omega
   have hn:=strip_short (l:=sb.data.toList) (by simp;omega);rw[He.out] at hn;have Hx:=Lib.hid hn;clear hn h1;go_wp2;go_ret;exact ⟨sb,rfl,Hx.out.symm,rfl⟩
theorem minus_at (s:ByteArray) (h:0<s.size):minusS s.data.toList=(s[0]==45):=headC_at s h 45
theorem ref2_whole_plain (s d:ByteArray) (hs:(s.size:Int)<=4096) (h0:0<s.size) (hd:d=s) (hdl:d.data.toList=tailS s.data.toList) (hm:minusS s.data.toList=false) (w:World):Calls Tryz.prog 98 #[.string s] w (RetV (wholeS s.data.toList) w):=by
 have hdz:d.size<=s.size:=by rw[hd];first|exact Nat.le_refl _|skip
 have HW0:wholeN s.data.toList=(bif allDg d.data.toList then numS d.data.toList 0 else none):=by rw[hdl];rfl
 have HW:wholeS s.data.toList=(wholeN s.data.toList).map (λn:Nat=>(n:Int)):=by unfold wholeS;rw[hm];rfl
 rw[HW0] at HW;have HA:=Lib.hid (ref2_all d (by omega));have HS:=Lib.hid (ref2_strip d (by omega));have n1:s.toList.isEmpty=false:=by rw[toList_data_ru];rw[List.isEmpty_eq_false_iff];exact ne_nil (by omega)
 have n2:s.data.toList.isEmpty=false:=by rw[List.isEmpty_eq_false_iff];exact ne_nil (by omega)
 have n3:(s.toList==[])=false:=by rw[toList_data_ru,beq_eq_false_iff_ne];exact ne_nil (by omega)
 have hs0i:(0:Int)<(s.size:Int):=by omega
 have hc0:((s[0].toNat:Int)==45)=false:=by
  have:=minus_at s h0;rw[hm] at this;have:=beq_eq_false_iff_ne.1 this.symm;rw[beq_eq_false_iff_ne];intro e;apply this;rw[<-UInt8.toNat_inj];show _=45;omega
 have hd':=hd.symm;clear hd;subst hd';have HHW:=Lib.hid HW;clear HW0 HW hdl hm;cases ha:allDg s.data.toList
 ·have hx:Hid (wholeS s.data.toList=none):=Lib.hid (by rw[HHW.out,ha];rfl);rw[ha] at HA;have HAA:=HA;clear ha HHW;go_enter Tryz.func98,Tryz.ntmps98;go_wp2_with (first|(go_at_call 67;refine (HA.out _).mono ?_;rintro e w' ⟨rfl,rfl⟩));go_ret2;exact RetV.none' hx.out
 ·have hall:s.data.toList.all isDg=true:=by unfold allDg at ha;rw[Bool.and_eq_true] at ha;exact ha.1
  have hne:s.data.toList.isEmpty=false:=by unfold allDg at ha;rw[Bool.and_eq_true] at ha;simpa using ha.2
  have hw9:wholeS s.data.toList=(numS s.data.toList 0).map (λn:Nat=>(n:Int)):=by rw[HHW.out,ha];rfl
  have Hw9:=Lib.hid hw9;have Hall:=Lib.hid hall;rw[ha] at HA;clear ha HHW hall hw9 hne;go_enter Tryz.func98,Tryz.ntmps98;go_upto_region 8 with (first|(go_at_call 67;refine (HA.out _).mono ?_;rintro e w' ⟨rfl,rfl⟩)|(go_at_call 69;refine (HS.out _).mono ?_;rintro e w' ⟨t,rfl,ht,rfl⟩))
  have htz:t.size<=s.size:=by
   have:=strip_len s.data.toList;rw[<-ht] at this;simpa using this
  have hall2:t.data.toList.all isDg=true:=by rw[ht];exact strip_all _ Hall.out
  have hnum:numS t.data.toList 0=numS s.data.toList 0:=by rw[ht];exact strip_num _
  by_cases hlong:19<t.size
  ·have hl:(19:Int)<(t.size:Int):=by omega
   have hx:Hid (wholeS s.data.toList=none):=Lib.hid (by rw[Hw9.out,strip_long _ Hall.out (by rw[<-ht];simpa using hlong)];rfl);clear ht hall2 hnum Hw9;go_wp2;go_ret2;exact RetV.none' hx.out
  ·have hl:¬(19:Int)<(t.size:Int):=by omega
   have Hd:=Lib.hid hall2;have Hx:=Lib.hid (hnum▸Hw9.out:wholeS s.data.toList=(numS t.data.toList 0).map (λn:Nat=>(n:Int)));have hts:(t.size:Int)<=19:=by omega
   clear ht hall2 hnum Hw9 HA HS hlong;go_wp2
   go_loop [5,6] (λv i=>∃k n:Nat,k<=t.size/\i= .int .i64 k/\v= .int .i64 n/\n<=maxN/\numS (t.data.toList.drop k) n=numS t.data.toList 0) (λ_ i=>t.size-(intOf i).toNat)
   case atStart=>exact ⟨0,0,Nat.zero_le _,rfl,rfl,Nat.zero_le _,rfl⟩
   case round=>
    obtain ⟨k,n,hk,rfl,rfl,hn,he⟩:=hrel;have hn1:(n:Int)<=4611686018427387904:=by have:n<=4611686018427387904:=hn;omega
    have He:=Lib.hid he;have Hn:=Lib.hid hn;clear he hn;by_cases hlt:k<t.size
    ·have hlt':(k:Int)<(t.size:Int):=by omega
     have hd:=Hd.out;have hsl:t.data.toList.length=t.size:=by simp
     obtain ⟨c,hc⟩:∃c,c=t[k]:=⟨_,rfl⟩
     have hdr:t.data.toList.drop k=c::t.data.toList.drop (k+1):=by rw[hc];exact List.drop_eq_getElem_cons (by simpa using hlt)
     have hcd:isDg c=true:=List.all_eq_true.1 hd c (List.mem_of_mem_drop (i:=k) (by rw[hdr];exact List.mem_cons_self));obtain ⟨c1,c2⟩:=(isDg_iff c).1 hcd;obtain ⟨n1,n2⟩:=numS_cons c (t.data.toList.drop (k+1)) n c1 c2 Hn.out;have hc1:(48:Int)<=(t[k].toNat:Int):=by rw[<-hc];omega
     have hc2:(t[k].toNat:Int)<=57:=by rw[<-hc];omega
     rw[hc] at n1 n2 hdr;have e0:=He.out;rw[hdr] at e0;by_cases hb:(4611686018427387904-((t[k].toNat:Int)-48))/10<(n:Int)
     ·have hx:Hid (wholeS s.data.toList=none):=Lib.hid (by rw[Hx.out,e0.symm.trans (n1 hb)];rfl);clear e0 n1 n2 hdr hcd hd hc c1 c2 hsl;go_wp2;go_ret2;exact RetV.none' hx.out
     ·obtain ⟨n3,n4⟩:=n2 hb;have hx:=Lib.hid (And.intro (n3.symm.trans e0) n4);have hb2:(n:Int)*10+((t[k].toNat:Int)-48)<=4611686018427387904:=by rw[hc] at c1;unfold maxN at n4;omega
      clear e0 n1 n2 n3 n4 hdr hcd hd hc c1 c2 hsl;go_wp2;go_round;case rel=>exact ⟨k+1,n*10+(t[k].toNat-48),by omega,by go_num,by go_num,hx.out.2,hx.out.1⟩
      case measure=>simp[intOf];omega
    ·have hks:k=t.size:=by omega
     have hge:¬(k:Int)<(t.size:Int):=by omega
     have e0:=He.out;rw[List.drop_eq_nil_of_le (by simp;omega)] at e0;have hx:Hid (wholeS s.data.toList=some (n:Int)):=Lib.hid (by rw[Hx.out,<-e0];rfl);clear e0 hks;go_wp2;go_ret2;exact RetV.some' hx.out
theorem ref2_whole_minus (s d:ByteArray) (hs:(s.size:Int)<=4096) (hd:d=s.extract 1 s.size) (hdl:d.data.toList=tailS s.data.toList) (hm:minusS s.data.toList=true) (w:World):Calls Tryz.prog 98 #[.string s] w (RetV (wholeS s.data.toList) w):=by
 have hdz:d.size<=s.size:=by rw[hd];rw[ByteArray.size_extract];omega;first|exact Nat.le_refl _|skip
 have HW0:wholeN s.data.toList=(bif allDg d.data.toList then numS d.data.toList 0 else none):=by rw[hdl];rfl
 have HW:wholeS s.data.toList=(wholeN s.data.toList).map (λn:Nat=> -(n:Int)):=by unfold wholeS;rw[hm];rfl
 rw[HW0] at HW;have HA:=Lib.hid (ref2_all d (by omega));have HS:=Lib.hid (ref2_strip d (by omega));have hs0:0<s.size:=by have:=minus_pos hm;simpa using this
 have hs0i:(0:Int)<(s.size:Int):=by omega
 have hc0:((s[0].toNat:Int)==45)=true:=by
  have:=minus_at s hs0;rw[hm] at this;have:=eq_of_beq this.symm;rw[this];rfl
 have n1:s.toList.isEmpty=false:=by rw[toList_data_ru];rw[List.isEmpty_eq_false_iff];exact ne_nil (by omega)
 have n2:s.data.toList.isEmpty=false:=by rw[List.isEmpty_eq_false_iff];exact ne_nil (by omega)
 have n3:(s.toList==[])=false:=by rw[toList_data_ru,beq_eq_false_iff_ne];exact ne_nil (by omega)
 have HD:=Lib.hid hd;have HHW:=Lib.hid HW;clear HW0 HW hdl hm hd;cases ha:allDg d.data.toList
 ·have hx:Hid (wholeS s.data.toList=none):=Lib.hid (by rw[HHW.out,ha];rfl);rw[ha] at HA;have HAA:=HA;clear ha HHW;go_enter Tryz.func98,Tryz.ntmps98;go_wp2_with (first|(go_at_call 67;(try rw[<-HD.out]);refine (HA.out _).mono ?_;rintro e w' ⟨rfl,rfl⟩));go_ret2;exact RetV.none' hx.out
 ·have hall:d.data.toList.all isDg=true:=by unfold allDg at ha;rw[Bool.and_eq_true] at ha;exact ha.1
  have hne:d.data.toList.isEmpty=false:=by unfold allDg at ha;rw[Bool.and_eq_true] at ha;simpa using ha.2
  have hw9:wholeS s.data.toList=(numS d.data.toList 0).map (λn:Nat=> -(n:Int)):=by rw[HHW.out,ha];rfl
  have Hw9:=Lib.hid hw9;have Hall:=Lib.hid hall;rw[ha] at HA;clear ha HHW hall hw9 hne;go_enter Tryz.func98,Tryz.ntmps98;go_upto_region 8 with (first|(go_at_call 67;(try rw[<-HD.out]);refine (HA.out _).mono ?_;rintro e w' ⟨rfl,rfl⟩)|(go_at_call 69;(try rw[<-HD.out]);refine (HS.out _).mono ?_;rintro e w' ⟨t,rfl,ht,rfl⟩))
  have htz:t.size<=d.size:=by
   have:=strip_len d.data.toList;rw[<-ht] at this;simpa using this
  have hall2:t.data.toList.all isDg=true:=by rw[ht];exact strip_all _ Hall.out
  have hnum:numS t.data.toList 0=numS d.data.toList 0:=by rw[ht];exact strip_num _
  by_cases hlong:19<t.size
  ·have hl:(19:Int)<(t.size:Int):=by omega
   have hx:Hid (wholeS s.data.toList=none):=Lib.hid (by rw[Hw9.out,strip_long _ Hall.out (by rw[<-ht];simpa using hlong)];rfl);clear ht hall2 hnum Hw9;go_wp2;go_ret2;exact RetV.none' hx.out
  ·have hl:¬(19:Int)<(t.size:Int):=by omega
   have Hd:=Lib.hid hall2;have Hx:=Lib.hid (hnum▸Hw9.out:wholeS s.data.toList=(numS t.data.toList 0).map (λn:Nat=> -(n:Int)));have hts:(t.size:Int)<=19:=by omega
   clear ht hall2 hnum Hw9 HA HS hlong;go_wp2
   go_loop [5,6] (λv i=>∃k n:Nat,k<=t.size/\i= .int .i64 k/\v= .int .i64 n/\n<=maxN/\numS (t.data.toList.drop k) n=numS t.data.toList 0) (λ_ i=>t.size-(intOf i).toNat)
   case atStart=>exact ⟨0,0,Nat.zero_le _,rfl,rfl,Nat.zero_le _,rfl⟩
   case round=>
    obtain ⟨k,n,hk,rfl,rfl,hn,he⟩:=hrel;have hn1:(n:Int)<=4611686018427387904:=by have:n<=4611686018427387904:=hn;omega
    have He:=Lib.hid he;have Hn:=Lib.hid hn;clear he hn;by_cases hlt:k<t.size
    ·have hlt':(k:Int)<(t.size:Int):=by omega
     have hd:=Hd.out;have hsl:t.data.toList.length=t.size:=by simp
     obtain ⟨c,hc⟩:∃c,c=t[k]:=⟨_,rfl⟩
     have hdr:t.data.toList.drop k=c::t.data.toList.drop (k+1):=by rw[hc];exact List.drop_eq_getElem_cons (by simpa using hlt)
     have hcd:isDg c=true:=List.all_eq_true.1 hd c (List.mem_of_mem_drop (i:=k) (by rw[hdr];exact List.mem_cons_self));obtain ⟨c1,c2⟩:=(isDg_iff c).1 hcd;obtain ⟨n1,n2⟩:=numS_cons c (t.data.toList.drop (k+1)) n c1 c2 Hn.out;have hc1:(48:Int)<=(t[k].toNat:Int):=by rw[<-hc];omega
     have hc2:(t[k].toNat:Int)<=57:=by rw[<-hc];omega
     rw[hc] at n1 n2 hdr;have e0:=He.out;rw[hdr] at e0;by_cases hb:(4611686018427387904-((t[k].toNat:Int)-48))/10<(n:Int)
     ·have hx:Hid (wholeS s.data.toList=none):=Lib.hid (by rw[Hx.out,e0.symm.trans (n1 hb)];rfl);clear e0 n1 n2 hdr hcd hd hc c1 c2 hsl;go_wp2;go_ret2;exact RetV.none' hx.out
     ·obtain ⟨n3,n4⟩:=n2 hb;have hx:=Lib.hid (And.intro (n3.symm.trans e0) n4);have hb2:(n:Int)*10+((t[k].toNat:Int)-48)<=4611686018427387904:=by rw[hc] at c1;unfold maxN at n4;omega
      clear e0 n1 n2 n3 n4 hdr hcd hd hc c1 c2 hsl;go_wp2;go_round;case rel=>exact ⟨k+1,n*10+(t[k].toNat-48),by omega,by go_num,by go_num,hx.out.2,hx.out.1⟩
      case measure=>simp[intOf];omega
    ·have hks:k=t.size:=by omega
     have hge:¬(k:Int)<(t.size:Int):=by omega
     have e0:=He.out;rw[List.drop_eq_nil_of_le (by simp;omega)] at e0;have hx:Hid (wholeS s.data.toList=some (-(n:Int))):=Lib.hid (by rw[Hx.out,<-e0];rfl);clear e0 hks;go_wp2;go_ret2;exact RetV.some' hx.out
theorem ref2_Whole (s:ByteArray) (hs:(s.size:Int)<=4096) (w:World):Calls Tryz.prog 98 #[.string s] w (RetV (wholeS s.data.toList) w):=by
 cases hm:minusS s.data.toList
 ·rcases Nat.eq_zero_or_pos s.size with h0|h0
  ·obtain rfl:s=⟨#[]⟩:=by
    apply ByteArray.ext;apply Array.eq_empty_of_size_eq_zero;exact h0
   have HA:=Lib.hid (ref2_all ⟨#[]⟩ hs);have ha:allDg (⟨#[]⟩:ByteArray).data.toList=false:=rfl;rw[ha] at HA;clear hm h0 ha;go_enter Tryz.func98,Tryz.ntmps98;go_wp2_with (go_at_call 67;refine (HA.out _).mono ?_;rintro e w' ⟨rfl,rfl⟩);go_ret2;exact RetV.none' rfl
  ·exact ref2_whole_plain s s hs h0 rfl (by unfold tailS;rw[hm];rfl) hm w
 ·exact ref2_whole_minus s _ hs rfl (by rw[Lib.extract_to_end];unfold tailS;rw[hm];rfl) hm w
theorem ret_i {a b:Int} (h:a=b):Ending.returned (.int .i64 a)= .returned (.int .i64 b):=by rw[h]
theorem sign_no {s:ByteArray} (h:signB s.data.toList=false):∃h0:(0:Int)<(s.size:Int),(((s[0]'(by omega)).toNat:Int)==45)=false/\(((s[0]'(by omega)).toNat:Int)==43)=false/\s.toList.isEmpty=false/\s.data.toList.isEmpty=false/\(s.toList==[])=false:=by
 have h0:0<s.size:=by
  rcases Nat.eq_zero_or_pos s.size with e|e
  ·obtain rfl:s=⟨#[]⟩:=by
    apply ByteArray.ext;apply Array.eq_empty_of_size_eq_zero;exact e
   cases h
  ·exact e
 have hl:0<s.data.toList.length:=by simpa using h0
 have hc:s.data.toList=s[0]::s.data.toList.drop 1:=by
  have:=List.drop_eq_getElem_cons hl
  rwa [List.drop_zero] at this
 have hb:(s[0]==45||s[0]==43)=false:=by rw[hc] at h;exact h
 rw[Bool.or_eq_false_iff,beq_eq_false_iff_ne,beq_eq_false_iff_ne] at hb;have key:∀n:UInt8,s[0]≠n->((s[0].toNat:Int)==(n.toNat:Int))=false:=λn hn=>by
  rw[beq_eq_false_iff_ne];intro e;apply hn;rw[<-UInt8.toNat_inj];omega
 refine ⟨by omega,key 45 hb.1,key 43 hb.2,by rw[toList_data_ru];rw[List.isEmpty_eq_false_iff];exact ne_nil (by omega),by rw[List.isEmpty_eq_false_iff];exact ne_nil (by omega),by rw[toList_data_ru,beq_eq_false_iff_ne];exact ne_nil (by omega)⟩
theorem dgN_at (s:ByteArray) (k:Nat) (h:k<s.size):dgN (s.data.toList.drop k)=bif isDg s[k] then dgN (s.data.toList.drop (k+1))+1 else 0:=by
 rw[List.drop_eq_getElem_cons (by simpa using h)];rfl
theorem span_digits (s:ByteArray) (hs:(s.size:Int)<=4096) (w:World):Calls Tryz.prog 123 #[.string s] w λe w'=>e= .returned (.int .i64 (dgN s.data.toList:Nat))/\w=w':=by
 go_enter Tryz.func123,Tryz.ntmps123;go_wp2
 go_loop [3] (λi=>∃k:Nat,k<=s.size/\i= .int .i64 k/\k+dgN (s.data.toList.drop k)=dgN s.data.toList) (λi=>s.size-(intOf i).toNat)
 case atStart=>exact ⟨0,Nat.zero_le _,rfl,by simp⟩
 case round=>
  obtain ⟨k,hk,rfl,ha⟩:=hrel;have Ha:=Lib.hid ha;clear ha;by_cases hlt:k<s.size
  ·have hlt':(k:Int)<(s.size:Int):=by omega
   have ht:=dgN_at s k hlt;have HD:=span_digit s[k];have ha:=Ha.out;rw[ht] at ha;cases hd:isDg s[k]
   ·rw[hd] at HD ha;have Hn:Hid (k=dgN s.data.toList):=Lib.hid (by simpa using ha);clear ht hd ha;go_wp2_with (go_at_call 142;refine (HD _).mono ?_;rintro e w' ⟨rfl,rfl⟩);go_ret;exact ⟨ret_i (by rw[<-Hn.out]),rfl⟩
   ·rw[hd] at HD ha;have Ht:Hid (k+1+dgN (s.data.toList.drop (k+1))=dgN s.data.toList):=Lib.hid (by simp only[cond_true] at ha;omega);clear ht hd ha;go_wp2_with (go_at_call 142;refine (HD _).mono ?_;rintro e w' ⟨rfl,rfl⟩);go_round;case rel=>exact ⟨k+1,by omega,by go_num,Ht.out⟩
    case measure=>simp[intOf];omega
  ·have hks:k=s.size:=by omega
   have hge:¬(k:Int)<(s.size:Int):=by omega
   have Hn:Hid (k=dgN s.data.toList):=Lib.hid (by
    have:=Ha.out;rw[List.drop_eq_nil_of_le (by simp;omega)] at this;simpa [dgN] using this)
   clear hks;go_wp2;go_ret;exact ⟨ret_i (by rw[<-Hn.out]),rfl⟩
theorem span_signed (s:ByteArray) (h:signB s.data.toList=false) (w:World):Calls Tryz.prog 122 #[.string s] w λe w'=>e= .returned (.bool false)/\w=w':=by
 obtain ⟨h0,h45,h43,n1,n2,n3⟩:=sign_no h;clear h;go_enter Tryz.func122,Tryz.ntmps122;go_wp2;go_ret;exact ⟨rfl,rfl⟩
theorem str_eq (s:ByteArray) (l:List UInt8):(s.toList==l)=(s.data.toList==l):=by rw[toList_data_ru]
def Strs (w:World) (b:Nat) (m:List (List UInt8)):Prop:=∀k (h:k<m.length),w.cell? ⟨b,k,none⟩=some (.string ⟨m[k].toArray⟩)
theorem inL_take (l:List UInt8) (m:List (List UInt8)) (k:Nat) (h:k<m.length):inLU l (m.take (k+1))=(inLU l (m.take k)||(m[k]==l)):=by
 unfold inLU;rw[List.take_succ_eq_append_getElem h,List.any_append];simp only[List.any_cons,List.any_nil,Bool.or_false]
theorem inL_of {l:List UInt8} {m:List (List UInt8)} {k:Nat} (h:inLU l (m.take k)=true):inLU l m=true:=by
 unfold inLU at *;rw[List.any_eq_true] at *;obtain ⟨x,hx,he⟩:=h;exact ⟨x,List.mem_of_mem_take hx,he⟩
theorem among_any (s:ByteArray) (m:List (List UInt8)) (hm:(m.length:Int)<=10) (b c:Nat) (w:World) (hS:Strs w b m):Calls Tryz.prog 143 #[.string s, .slice (some ⟨b,0,none⟩) m.length c] w λe w'=>e= .returned (.bool (inLU s.data.toList m))/\w=w':=by
 have HS:=Lib.hid hS;obtain ⟨n,hn⟩:∃n,n=m.length:=⟨_,rfl⟩
 rw[<-hn] at hm ⊢;have Hn:=Lib.hid hn;clear hS hn;go_enter Tryz.func143,Tryz.ntmps143;go_wp2
 go_loop [9] (λi=>∃k:Nat,k<=n/\i= .int .i64 k/\inLU s.data.toList (m.take k)=false) (λi=>n-(intOf i).toNat)
 case atStart=>exact ⟨0,Nat.zero_le _,rfl,rfl⟩
 case round=>
  obtain ⟨k,hk,rfl,ha⟩:=hrel;have Ha:=Lib.hid ha;clear ha;by_cases hlt:k<n
  ·have hlt':(k:Int)<(n:Int):=by omega
   have hkm:k<m.length:=by rw[<-Hn.out];exact hlt
   have hc:=HS.out k hkm;have ht:=inL_take s.data.toList m k hkm;rw[Ha.out,Bool.false_or] at ht;have he:((⟨m[k].toArray⟩:ByteArray).toList==s.toList)=(m[k]==s.data.toList):=by rw[toList_data_ru,toList_data_ru]
   obtain ⟨x,hx⟩:∃x:ByteArray,x=⟨m[k].toArray⟩:=⟨_,rfl⟩
   rw[<-hx] at hc he;cases hb:(m[k]==s.data.toList)
   ·rw[hb] at ht he;have Ht:=Lib.hid ht;clear hx hb ht;go_wp2;go_round;case rel=>exact ⟨k+1,by omega,by go_num,Ht.out⟩
    case measure=>simp[intOf];omega
   ·rw[hb] at ht he;have Ht:=Lib.hid (inL_of ht);clear hx hb ht;go_wp2;go_ret;exact ⟨ret_b Ht.out.symm,rfl⟩
  ·have hks:k=n:=by omega
   have hge:¬(k:Int)<(n:Int):=by omega
   have Hx:Hid (inLU s.data.toList m=false):=Lib.hid (by
    have:=Ha.out
    rwa [List.take_of_length_le (by rw[<-Hn.out];omega)] at this)
   clear hks;go_wp2;go_ret;exact ⟨ret_b Hx.out.symm,rfl⟩
theorem units_ok:(names.all λq=>q.1.all λx=>unitS x==q.2)=true:=by kernel_rfl
theorem ref_unit_of (w:World):∀q∈names,∀x∈q.1,Calls Tryz.prog 128 #[.string ⟨x.toArray⟩] w λe w'=>e= .returned (.int .i64 (q.2:Nat))/\w=w':=by
 unfold names;simp only[List.mem_cons,List.not_mem_nil,or_false,forall_eq_or_imp,forall_eq];refine ⟨⟨?_,?_,?_,?_,?_⟩,⟨?_,?_,?_,?_⟩,⟨?_,?_,?_⟩,⟨?_,?_,?_⟩,⟨?_,?_,?_⟩,⟨?_,?_,?_⟩,⟨?_,?_,?_⟩⟩;all_goals (
  go_enter Tryz.func128,Tryz.ntmps128;go_wp2;go_ret;exact ⟨rfl,rfl⟩)
theorem unit_no {l:List UInt8}:∀m:List (List (List UInt8)×Nat),(∀q∈m,∀x∈q.1,(l==x)=false)->unitF l m=0
 | [],_=>rfl
 | (a,u)::m,hm=>by
  have e:inLU l a=false:=by
   unfold inLU;rw[List.any_eq_false];intro x hx hc;have:=beq_eq_false_iff_ne.1 (hm _ List.mem_cons_self x hx);exact this (eq_of_beq hc).symm
  rw[unitF,e];exact unit_no m λq hq=>hm q (List.mem_cons_of_mem _ hq)
theorem unit_none {l:List UInt8} (h:∀q∈names,∀x∈q.1,(l==x)=false):unitS l=0:=unit_no names h
theorem ref_unit_none (s:ByteArray) (hn:∀q∈names,∀x∈q.1,(s.data.toList==x)=false) (w:World):Calls Tryz.prog 128 #[.string s] w λe w'=>e= .returned (.int .i64 0)/\w=w':=by
 have hn:∀q∈names,∀x∈q.1,(s.toList==x)=false:=λq hq x hx=>by rw[str_eq];exact hn q hq x hx
 unfold names at hn;simp only[List.mem_cons,List.not_mem_nil,or_false,forall_eq_or_imp,forall_eq] at hn;obtain ⟨⟨a0,a1,a2,a3,a4⟩,⟨b0,b1,b2,b3⟩,⟨c0,c1,c2⟩,⟨d0,d1,d2⟩,⟨e0,e1,e2⟩,⟨f0,f1,f2⟩,⟨g0,g1,g2⟩⟩:=hn;go_enter Tryz.func128,Tryz.ntmps128;go_wp2;go_ret;exact ⟨rfl,rfl⟩
theorem ref_unit (s:ByteArray) (w:World):Calls Tryz.prog 128 #[.string s] w λe w'=>e= .returned (.int .i64 (unitS s.data.toList:Nat))/\w=w':=by
 by_cases h:∃q∈names,∃x∈q.1,s.data.toList=x
 ·obtain ⟨q,hq,x,hx,e⟩:=h;have hs:s=⟨x.toArray⟩:=by apply ByteArray.ext;rw[<-e,Array.toArray_toList]
  have hu:=List.all_eq_true.1 (List.all_eq_true.1 units_ok q hq) x hx;rw[e,eq_of_beq hu,hs];exact ref_unit_of w q hq x hx
 ·have hn:∀q∈names,∀x∈q.1,(s.data.toList==x)=false:=λq hq x hx=>beq_eq_false_iff_ne.2 λe=>h ⟨q,hq,x,hx,e⟩;rw[unit_none hn];exact ref_unit_none s hn w
theorem among_new (s:ByteArray) (m:List (List UInt8)) (b:Bool) (w:World) (hb:inLU s.data.toList m=b) (hm:(m.length:Int)<=10):Calls Tryz.prog 143 #[.string s, .slice (some ⟨w.heap.size,0,none⟩) m.length m.length] (w.alloc (.cells (m.map λx=>Value.string ⟨x.toArray⟩).toArray 9)) λe w'=>e= .returned (.bool b)/\Gr w w':=by
 refine (among_any s m hm _ _ _ (λk h=>?_)).mono λe w' h=>⟨by rw[h.1,hb],by rw[<-h.2];exact Gr.alloc (Gr.refl w) _⟩
 simp only[World.cell?,World.alloc,Array.getElem?_push_size];simp[h]
theorem span_unit (s:ByteArray) (w:World):Calls Tryz.prog 124 #[.string s] w λe w'=>e= .returned (.int .i64 (unitS s.data.toList:Nat))/\Gr w w':=by
 obtain ⟨u,hu⟩:∃u,u=unitS s.data.toList:=⟨_,rfl⟩
 rw[<-hu];unfold unitS names at hu;simp only[unitF] at hu;have HU:=Lib.hid hu;clear hu;have g0:Gr w w:=Gr.refl w;go_enter Tryz.func124,Tryz.ntmps124;cases h0:inLU s.data.toList [[115],[115,101,99],[115,101,99,115],[115,101,99,111,110,100],[115,101,99,111,110,100,115]];rotate_left
 ·have e:u=1:=by rw[HU.out,h0];rfl
  subst e;go_wp2_with (go_at_call 143;refine (among_new s [[115],[115,101,99],[115,101,99,115],[115,101,99,111,110,100],[115,101,99,111,110,100,115]] _ _ h0 (by decide)).mono ?_;rintro e w1 ⟨rfl,k⟩;replace g0:=g0.trans k;clear k);go_ret;exact ⟨rfl,g0⟩
 go_upto_region 3 with (go_at_call 143;refine (among_new s [[115],[115,101,99],[115,101,99,115],[115,101,99,111,110,100],[115,101,99,111,110,100,115]] _ _ h0 (by decide)).mono ?_;rintro e w1 ⟨rfl,k⟩;replace g0:=g0.trans k;clear k)
 cases h1:inLU s.data.toList [[109,105,110],[109,105,110,115],[109,105,110,117,116,101],[109,105,110,117,116,101,115]];rotate_left
 ·have e:u=60:=by rw[HU.out,h0,h1];rfl
  subst e;go_wp2_with (go_at_call 143;refine (among_new s [[109,105,110],[109,105,110,115],[109,105,110,117,116,101],[109,105,110,117,116,101,115]] _ _ h1 (by decide)).mono ?_;rintro e w2 ⟨rfl,k⟩;replace g0:=g0.trans k;clear k);go_ret;exact ⟨rfl,g0⟩
 go_upto_region 5 with (go_at_call 143;refine (among_new s [[109,105,110],[109,105,110,115],[109,105,110,117,116,101],[109,105,110,117,116,101,115]] _ _ h1 (by decide)).mono ?_;rintro e w2 ⟨rfl,k⟩;replace g0:=g0.trans k;clear k)
 cases h2:inLU s.data.toList [[104],[104,111,117,114],[104,111,117,114,115]];rotate_left
 ·have e:u=3600:=by rw[HU.out,h0,h1,h2];rfl
  subst e;go_wp2_with (go_at_call 143;refine (among_new s [[104],[104,111,117,114],[104,111,117,114,115]] _ _ h2 (by decide)).mono ?_;rintro e w3 ⟨rfl,k⟩;replace g0:=g0.trans k;clear k);go_ret;exact ⟨rfl,g0⟩
 go_upto_region 7 with (go_at_call 143;refine (among_new s [[104],[104,111,117,114],[104,111,117,114,115]] _ _ h2 (by decide)).mono ?_;rintro e w3 ⟨rfl,k⟩;replace g0:=g0.trans k;clear k)
 cases h3:inLU s.data.toList [[100],[100,97,121],[100,97,121,115]];rotate_left
 ·have e:u=86400:=by rw[HU.out,h0,h1,h2,h3];rfl
  subst e;go_wp2_with (go_at_call 143;refine (among_new s [[100],[100,97,121],[100,97,121,115]] _ _ h3 (by decide)).mono ?_;rintro e w4 ⟨rfl,k⟩;replace g0:=g0.trans k;clear k);go_ret;exact ⟨rfl,g0⟩
 go_upto_region 9 with (go_at_call 143;refine (among_new s [[100],[100,97,121],[100,97,121,115]] _ _ h3 (by decide)).mono ?_;rintro e w4 ⟨rfl,k⟩;replace g0:=g0.trans k;clear k)
 cases h4:inLU s.data.toList [[119],[119,101,101,107],[119,101,101,107,115]];rotate_left
 ·have e:u=604800:=by rw[HU.out,h0,h1,h2,h3,h4];rfl
  subst e;go_wp2_with (go_at_call 143;refine (among_new s [[119],[119,101,101,107],[119,101,101,107,115]] _ _ h4 (by decide)).mono ?_;rintro e w5 ⟨rfl,k⟩;replace g0:=g0.trans k;clear k);go_ret;exact ⟨rfl,g0⟩
 go_upto_region 11 with (go_at_call 143;refine (among_new s [[119],[119,101,101,107],[119,101,101,107,115]] _ _ h4 (by decide)).mono ?_;rintro e w5 ⟨rfl,k⟩;replace g0:=g0.trans k;clear k)
 cases h5:inLU s.data.toList [[109,111,110],[109,111,110,116,104],[109,111,110,116,104,115]];rotate_left
 ·have e:u=2592000:=by rw[HU.out,h0,h1,h2,h3,h4,h5];rfl
  subst e;go_wp2_with (go_at_call 143;refine (among_new s [[109,111,110],[109,111,110,116,104],[109,111,110,116,104,115]] _ _ h5 (by decide)).mono ?_;rintro e w6 ⟨rfl,k⟩;replace g0:=g0.trans k;clear k);go_ret;exact ⟨rfl,g0⟩
 go_upto_region 13 with (go_at_call 143;refine (among_new s [[109,111,110],[109,111,110,116,104],[109,111,110,116,104,115]] _ _ h5 (by decide)).mono ?_;rintro e w6 ⟨rfl,k⟩;replace g0:=g0.trans k;clear k)
 cases h6:inLU s.data.toList [[121],[121,101,97,114],[121,101,97,114,115]];rotate_left
 ·have e:u=31536000:=by rw[HU.out,h0,h1,h2,h3,h4,h5,h6];rfl
  subst e;go_wp2_with (go_at_call 143;refine (among_new s [[121],[121,101,97,114],[121,101,97,114,115]] _ _ h6 (by decide)).mono ?_;rintro e w7 ⟨rfl,k⟩;replace g0:=g0.trans k;clear k);go_ret;exact ⟨rfl,g0⟩
 have e:u=0:=by rw[HU.out,h0,h1,h2,h3,h4,h5,h6];rfl
 subst e;go_wp2_with (go_at_call 143;refine (among_new s [[121],[121,101,97,114],[121,101,97,114,115]] _ _ h6 (by decide)).mono ?_;rintro e w7 ⟨rfl,k⟩;replace g0:=g0.trans k;clear k);go_ret;exact ⟨rfl,g0⟩
end Go.Proofs.YtjapddfnpmlifaaGreatDoor
