import Derived.Test.YtjapddfnpmlifaaGreatDoorRunRpDecP
import Derived.Test.YtjapddfnpmlifaaGreatDoorRunRuSpec
import Derived.Test.YtjapddfnpmlifaaGreatDoorRunFxBase
import Derived.Deep.CutBlock
set_option linter.all false
set_option maxRecDepth 1000000
set_option maxHeartbeats 12800000
namespace Go.Proofs.YtjapddfnpmlifaaGreatDoor
open Go.RowKit
theorem valD_take (l:List UInt8) (k:Nat) (h:k<l.length):valD (l.take (k+1)) 0=valD (l.take k) 0*10+(l[k].toNat-48):=by
 rw[List.take_add_one,List.getElem?_eq_getElem h];exact valD_app _ _ _
theorem pad_in {l:List UInt8} {k:Nat} (h:k<l.length) (h6:k<6):(padS l)[k]'(by rw[pad_len];exact h6)=l[k]:=by
 simp[padS,List.getElem_append_left h]
theorem pad_out {l:List UInt8} {k:Nat} (h:¬k<l.length) (h6:k<6):(padS l)[k]'(by rw[pad_len];exact h6)=48:=by
 simp only[padS,List.getElem_take,List.getElem_append_right (Nat.not_lt.1 h),List.getElem_replicate]
theorem take_lt {l:List UInt8} (h:l.all isDg=true) (k:Nat) (hk:k<=6):valD ((padS l).take k) 0<1000000:=by
 have h1:((padS l).take k).all isDg=true:=by
  have:=pad_all h;rw[List.all_eq_true] at *;exact λx hx=>this x (List.mem_of_mem_take hx)
 have h2:=valD_lt _ h1;have h3:((padS l).take k).length<=6:=by rw[List.length_take];omega
 exact Nat.lt_of_lt_of_le h2 (Nat.pow_le_pow_right (by decide) h3)
theorem dg_at {l:List UInt8} (h:l.all isDg=true) (k:Nat) (hk:k<l.length):48<=l[k].toNat/\l[k].toNat<=57:=
 (isDg_iff _).1 (List.all_eq_true.1 h _ (List.getElem_mem hk))
theorem frac_any (s:ByteArray) (hs:(s.size:Int)<=4096) (ha:s.data.toList.all isDg=true) (w:World):Calls Tryz.prog 71 #[.string s] w λe w'=>e= .returned (.int .i64 (fracD s.data.toList:Nat))/\w=w':=by
 have hl:s.data.toList.length=s.size:=by simp
 have HA:=Lib.hid (And.intro ha hl);clear ha hl;go_enter Tryz.func71,Tryz.ntmps71;go_wp2
 go_loop [3,4] (λv i=>∃k n:Nat,k<=6/\i= .int .i64 k/\v= .int .i64 n/\n=valD ((padS s.data.toList).take k) 0) (λ_ i=>6-(intOf i).toNat)
 case atStart=>exact ⟨0,0,by decide,rfl,rfl,rfl⟩
 case round=>
  obtain ⟨k,n,hk,rfl,rfl,hn⟩:=hrel;have hn1:(n:Int)<1000000:=by have:=take_lt HA.out.1 k hk;rw[hn];omega
  have Hn:=Lib.hid hn;clear hn;by_cases h6:k<6
  ·have h6i:(k:Int)<6:=by omega
   have hst:=valD_take (padS s.data.toList) k (by rw[pad_len];exact h6);rw[<-Hn.out] at hst;by_cases hlt:k<s.size
   ·have hlt':(k:Int)<(s.size:Int):=by omega
    have hkl:k<s.data.toList.length:=by rw[HA.out.2];exact hlt
    obtain ⟨c1,c2⟩:=dg_at HA.out.1 k hkl;rw[pad_in hkl h6] at hst;have hc1:48<=(s[k].toNat:Int):=by have:48<=s[k].toNat:=c1;omega
    have hc2:(s[k].toNat:Int)<=57:=by have:s[k].toNat<=57:=c2;omega
    have hst:n*10+(s[k].toNat-48)=valD ((padS s.data.toList).take (k+1)) 0:=hst.symm;have Hst:=Lib.hid hst;clear hst c1 c2;go_wp2;go_round;case rel=>exact ⟨k+1,n*10+(s[k].toNat-48),by omega,by go_num,by go_num,Hst.out⟩
    case measure=>simp[intOf];omega
   ·have hlt':¬(k:Int)<(s.size:Int):=by omega
    have hkl:¬k<s.data.toList.length:=by rw[HA.out.2];exact hlt
    rw[pad_out hkl h6] at hst;have Hst:Hid (n*10=valD ((padS s.data.toList).take (k+1)) 0):=Lib.hid (by rw[hst];rfl);clear hst;go_wp2;go_round;case rel=>exact ⟨k+1,n*10,by omega,by go_num,by go_num,Hst.out⟩
    case measure=>simp[intOf];omega
  ·have h6i:¬(k:Int)<6:=by omega
   have hv:n=valD (padS s.data.toList) 0:=by
    rw[Hn.out,List.take_of_length_le (by rw[pad_len];omega)]
   by_cases hb:6<s.size
   ·have hbi:(6:Int)<(s.size:Int):=by omega
    have hu:upS s.data.toList=bif Nat.ble 53 (s[6]'(by omega)).toNat then 1 else 0:=by
     unfold upS;rw[ble_of (by rw[HA.out.2];omega),Bool.true_and,List.getD_eq_getElem?_getD,List.getElem?_eq_getElem (by rw[HA.out.2];exact hb)];rfl
    by_cases h53:53<=(s[6]'(by omega)).toNat
    ·have h53i:(53:Int)<=((s[6]'(by omega)).toNat:Int):=by omega
     have HF:Hid ((n:Int)+1=(fracD s.data.toList:Nat)):=Lib.hid (by unfold fracD;rw[<-hv,hu,ble_of h53];rfl);clear hu h53 hv;go_wp2;go_ret;exact ⟨ret_i HF.out,rfl⟩
    ·have h53i:¬(53:Int)<=((s[6]'(by omega)).toNat:Int):=by omega
     have HF:Hid (n=fracD s.data.toList):=Lib.hid (by unfold fracD;rw[<-hv,hu,ble_not h53];rfl);clear hu h53 hv;go_wp2;go_ret;exact ⟨ret_i (by rw[<-HF.out]),rfl⟩
   ·have hbi:¬(6:Int)<(s.size:Int):=by omega
    have HF:Hid (n=fracD s.data.toList):=Lib.hid (by
     unfold fracD upS;rw[<-hv,ble_not (by rw[HA.out.2];omega)];rfl)
    clear hv;go_wp2;go_ret;exact ⟨ret_i (by rw[<-HF.out]),rfl⟩
def RetCp (x:Option Nat) (b:Bool) (w:World) (e:Ending) (w':World):Prop:=(match x with
 | none=>e= .returned (.tuple #[.int .i64 0, .bool false])
 | some n=>e= .returned (.tuple #[.int .i64 (n:Nat), .bool b]))/\w=w'
theorem RetCp.no {x:Option Nat} {b:Bool} {w:World} (h:x=none):RetCp x b w (.returned (.tuple #[.int .i64 0, .bool false])) w:=by subst h;exact ⟨rfl,rfl⟩
theorem RetCp.yes {x:Option Nat} {b c:Bool} {w:World} {n:Nat} (h:x=some n) (hb:c=b):RetCp x b w (.returned (.tuple #[.int .i64 (n:Nat), .bool c])) w:=by subst h hb;exact ⟨rfl,rfl⟩
theorem cap_step (c:UInt8) (r:List UInt8) (n:Nat):(461168601842738789<n->capS (c::r) n=none)/\(¬461168601842738789<n->capS (c::r) n=capS r (n*10+(c.toNat-48))):=by
 constructor<;>intro h
 ·have:Nat.blt ((maxN-9)/10) n=true:=by rw[Nat.blt_eq];exact h
  rw[capS,this];rfl
 ·have:Nat.blt ((maxN-9)/10) n=false:=by
   cases e:Nat.blt ((maxN-9)/10) n
   ·rfl
   ·exact absurd (of_blt e) h
  rw[capS,this];rfl
theorem rwhole_any (s:ByteArray) (hs:(s.size:Int)<=4096) (ha:s.data.toList.all isDg=true) (h0:0<s.size) (w:World):Calls Tryz.prog 68 #[.string s] w (RetCp (capS s.data.toList 0) true w):=by
 have hl:s.data.toList.length=s.size:=by simp
 have h0i:(0:Int)<(s.size:Int):=by omega
 have HA:=Lib.hid (And.intro ha hl);clear ha hl;go_enter Tryz.func68,Tryz.ntmps68;go_wp2
 go_loop [4,5] (λv i=>∃k n:Nat,k<=s.size/\i= .int .i64 k/\v= .int .i64 n/\n<=maxN/\capS (s.data.toList.drop k) n=capS s.data.toList 0) (λ_ i=>s.size-(intOf i).toNat)
 case atStart=>exact ⟨0,0,Nat.zero_le _,rfl,rfl,Nat.zero_le _,rfl⟩
 case round=>
  obtain ⟨k,n,hk,rfl,rfl,hn,he⟩:=hrel;have hn1:(n:Int)<=4611686018427387904:=by have:n<=4611686018427387904:=hn;omega
  have He:=Lib.hid he;clear he hn;by_cases hlt:k<s.size
  ·have hlt':(k:Int)<(s.size:Int):=by omega
   have hkl:k<s.data.toList.length:=by rw[HA.out.2];exact hlt
   obtain ⟨c1,c2⟩:=dg_at HA.out.1 k hkl;have hdr:s.data.toList.drop k=s[k]::s.data.toList.drop (k+1):=List.drop_eq_getElem_cons hkl;have hD:=ref2_digit s[k];rw[show isDg s[k]=true from (isDg_iff _).2 ⟨c1,c2⟩] at hD;have hc1:48<=(s[k].toNat:Int):=by have:48<=s[k].toNat:=c1;omega
   have hc2:(s[k].toNat:Int)<=57:=by have:s[k].toNat<=57:=c2;omega
   have HD:=Lib.hid hD;obtain ⟨p1,p2⟩:=cap_step s[k] (s.data.toList.drop (k+1)) n;by_cases hb:461168601842738789<n
   ·have hbi:(461168601842738789:Int)<(n:Int):=by omega
    have HX:Hid (capS s.data.toList 0=none):=Lib.hid (by rw[<-He.out,hdr,p1 hb]);clear p1 p2 hdr hD c1 c2 hb;go_wp2_with (go_at_call 101;refine (HD.out _).mono ?_;rintro e w' ⟨rfl,rfl⟩);go_ret2;exact RetCp.no HX.out
   ·have hbi:¬(461168601842738789:Int)<(n:Int):=by omega
    have HX:Hid (capS (s.data.toList.drop (k+1)) (n*10+(s[k].toNat-48))=capS s.data.toList 0):=Lib.hid (by rw[<-He.out,hdr,p2 hb]);have hbm:(n:Int)*10<=4611686018427387890:=by omega
    clear p1 p2 hdr hD c1 c2 hb;go_wp2_with (go_at_call 101;refine (HD.out _).mono ?_;rintro e w' ⟨rfl,rfl⟩);go_round;case rel=>exact ⟨k+1,n*10+(s[k].toNat-48),by omega,by go_num,by go_num,by unfold maxN;omega,HX.out⟩
    case measure=>simp[intOf];omega
  ·have hlt':¬(k:Int)<(s.size:Int):=by omega
   have HX:Hid (capS s.data.toList 0=some n):=Lib.hid (by
    rw[<-He.out,List.drop_eq_nil_of_le (by rw[HA.out.2];omega)];rfl)
   go_wp2;go_ret2;exact RetCp.yes HX.out rfl
theorem strip_pos:∀{l:List UInt8},l≠[]->stripS l≠[]
 | [],h=>absurd rfl h
 | [c],_=>by simp[stripS]
 | c::d::r,_=>by
  unfold stripS;cases (c==48)
  ·simp
  ·exact strip_pos (by simp)
theorem refD_hi {a b:List UInt8} {n:Nat} (hc:capS (stripS a) 0=some n) (h:4611686018427<n):refD a b=none:=by
 have:Nat.blt (maxN/1000000) n=true:=by rw[Nat.blt_eq];exact h
 unfold refD;rw[hc];show (bif Nat.blt (maxN/1000000) n then none else _)=none;rw[this,cond_true]
theorem refD_lo {a b:List UInt8} {n:Nat} (hc:capS (stripS a) 0=some n) (h:¬4611686018427<n):refD a b=capN (n*1000000+fracD b):=by
 have:Nat.blt (maxN/1000000) n=false:=by
  cases e:Nat.blt (maxN/1000000) n
  ·rfl
  ·exact absurd (of_blt e) h
 unfold refD capN;rw[hc];show (bif Nat.blt (maxN/1000000) n then none else _)=_;rw[this,cond_false]
theorem mul_lim {n F:Nat} (h:¬(4611686018427:Int)<(n:Int)) (hF:(F:Int)<=1000000):(n:Int)*1000000+(F:Int)<=4611686018428000000/\0<=(n:Int)*1000000+(F:Int):=by omega
theorem of_pick (mn:Bool) (N:Nat):∃(o:Bool) (y:Int),ofV (bif mn then -(N:Int) else (N:Int))=⟨o,y⟩/\signV mn (capN N)=(if o=true then some y else none)/\(o=false->y=0):=by
 by_cases h:N<=4611686018427387904
 ·refine ⟨true,bif mn then -(N:Int) else (N:Int),ofV_in (by cases mn<;>simp only[cond_true,cond_false]<;>omega) (by cases mn<;>simp only[cond_true,cond_false]<;>omega),?_,λh=>by cases h⟩;unfold capN;rw[show Nat.ble N maxN=true from ble_of h];cases mn<;>rfl
 ·refine ⟨false,0,?_,?_,λ_=>rfl⟩
  ·cases mn
   ·exact ofV_hi (by simp only[cond_false];omega)
   ·exact ofV_lo (by simp only[cond_true];omega)
  ·rw[capN_no (Nat.lt_of_not_le h)];rfl
theorem cut_pre (c:UInt8):∀(p r:List UInt8),(∀x∈p,(x==c)=false)->cutS c (p++c::r)=some (p,r)
 | [],r,_=>by
  rw[List.nil_append,cutS,beq_self_eq_true];rfl
 | x::p,r,h=>by
  rw[List.cons_append,cutS,h x List.mem_cons_self,cond_false,cut_pre c p r λy hy=>h y (List.mem_cons_of_mem _ hy)];rfl
theorem cut_none (c:UInt8):∀p:List UInt8,(∀x∈p,(x==c)=false)->cutS c p=none
 | [],_=>rfl
 | x::p,h=>by
  rw[cutS,h x List.mem_cons_self,cond_false,cut_none c p λy hy=>h y (List.mem_cons_of_mem _ hy)];rfl
def DotC (T A B:ByteArray) (d:Bool):Prop:=(A.size:Int)<=4000/\(B.size:Int)<=4000/\
 absD T.data.toList=(bif allDg A.data.toList&&(!d||allDg B.data.toList) then some (valD A.data.toList 0*1000000+fracD B.data.toList) else none)/\(d=false->B=⟨#[]⟩)
theorem DotC.no {T:ByteArray} (hT:(T.size:Int)<=4000) {k:Nat} (hk:¬k<T.size) (h:∀x∈T.data.toList.take k,(x==46)=false):DotC T T ⟨#[]⟩ false:=by
 have hz:T.data.toList.length=T.size:=by simp
 rw[List.take_of_length_le (by omega)] at h;exact ⟨hT,by decide,by rw[abs_none (cut_none 46 _ h)];show _=(bif allDg T.data.toList&&true then some (_+fracD []) else none);rw[frac_nil,Bool.and_true,Nat.add_zero],λ_=>rfl⟩
theorem DotC.yes {T:ByteArray} (hT:(T.size:Int)<=4000) {k:Nat} (hk:k<T.size) (h:∀x∈T.data.toList.take k,(x==46)=false) (h46:T[k]=46):DotC T (T.extract 0 k) (T.extract (k+1) T.size) true:=by
 have hz:T.data.toList.length=T.size:=by simp
 have e:T.data.toList=T.data.toList.take k++46::T.data.toList.drop (k+1):=by
  have:=List.drop_eq_getElem_cons (l:=T.data.toList) (i:=k) (by omega);rw[show T.data.toList[k]'(by omega)=46 from h46] at this;rw[<-this,List.take_append_drop]
 have ea:(T.extract 0 k).data.toList=T.data.toList.take k:=by rw[ext_eq];rfl
 have eb:=Lib.extract_to_end T (k+1);have hc:cutS 46 T.data.toList=some (T.data.toList.take k,T.data.toList.drop (k+1)):=by
  conv=>lhs;rw[e]
  exact cut_pre 46 _ _ h
 refine ⟨by rw[ByteArray.size_extract];omega,by rw[ByteArray.size_extract];omega,?_,λh=>by cases h⟩;rw[abs_cut hc,ea,eb];rfl
structure DpS (w:World) (b:Nat) (o:Bool) (y:Int) (W:World):Prop where
 gr:Gr w W
 c0:W.cell? ⟨b,0,none⟩=some (.bool o)
 c1:W.cell? ⟨b,1,none⟩=some (.int .i64 y)
 v0:W.cell? ⟨w.heap.size,0,none⟩=some (.bool false)
 v1:W.cell? ⟨w.heap.size,1,none⟩=some (.int .i64 0)
 u0:W.frozen? ⟨w.heap.size,0,none⟩=false
 u1:W.frozen? ⟨w.heap.size,1,none⟩=false
 ne:w.heap.size<b
 lt:b<W.heap.size
theorem DpS.drew {w:World} {b:Nat} {o:Bool} {y:Int} {W:World} (h:DpS w b o y W):DpS w b o y W.drew:=
 ⟨h.gr.drew,h.c0,h.c1,h.v0,h.v1,h.u0,h.u1,h.ne,h.lt⟩
def ValS (b:Nat) (o:Bool) (y:Int) (W:World):Prop:=W.cell? ⟨b,0,none⟩=some (.bool o)/\W.cell? ⟨b,1,none⟩=some (.int .i64 y)
theorem rdparse_any (s:ByteArray) (hs:(s.size:Int)<=4000) (w:World):Calls Tryz.prog 42 #[.string s] w (RetVl (decV s.data.toList) w):=by
 obtain ⟨T,hT⟩:∃T:ByteArray,T.data.toList=bareS s.data.toList:=⟨⟨(bareS s.data.toList).toArray⟩,rfl⟩
 obtain ⟨mn,hmn⟩:∃mn,mn=minusS s.data.toList:=⟨_,rfl⟩
 have hTs:(T.size:Int)<=4000:=by
  have h1:T.size=(bareS s.data.toList).length:=by rw[<-hT];simp
  have h2:(bareS s.data.toList).length<=s.data.toList.length:=by unfold bareS;cases (minusS s.data.toList||plusS s.data.toList)<;>simp
  have h3:s.data.toList.length=s.size:=by simp
  omega
 have HDV:Hid (decV s.data.toList=match absD T.data.toList with|none=>none|some n=>bif Nat.ble n maxN then some (bif mn then -(n:Int) else (n:Int)) else none):=Lib.hid (by rw[hT,hmn];rfl);obtain ⟨V,hV⟩:∃V,V=w.alloc (.cells #[.bool false, .int .i64 0] 104):=⟨_,rfl⟩
 have gV:Gr w V:=by rw[hV];exact Gr.alloc (Gr.refl w) _
 have v0:V.cell? ⟨w.heap.size,0,none⟩=some (.bool false):=by rw[hV];go_simp
 have v1:V.cell? ⟨w.heap.size,1,none⟩=some (.int .i64 0):=by rw[hV];go_simp
 have u0:V.frozen? ⟨w.heap.size,0,none⟩=false:=by rw[hV];go_simp
 have u1:V.frozen? ⟨w.heap.size,1,none⟩=false:=by rw[hV];go_simp
 have hzV:w.heap.size<V.heap.size:=by rw[hV];simp
 have HV:=Lib.hid hV;have GV:=Lib.hid gV;have HT:=Lib.hid hT;have HMn:=Lib.hid hmn;clear hT hV gV hmn;go_enter Tryz.func42,Tryz.ntmps42;go_upto_region 2 with (fail)
 rw[<-HV.out];clear HV;have HSC:=Lib.hid (sign_cases s)
 go_cut [23] from 12 to 23 (λp wx=>V=wx/\∃b,p= .bool b/\Hid (b=(mn||plusS s.data.toList)))
 case first=>
  rcases HSC.out with rfl|⟨h0,⟨n1,n2,n3⟩,⟨a1,a2⟩|⟨a1,a2,a3⟩|⟨a1,a2,a3⟩⟩
  ·go_wp2;go_meet;exact ⟨rfl,_,rfl,Lib.hid (by rw[HMn.out];rfl)⟩
  ·have A2:=Lib.hid a2;clear a2;go_wp2;go_meet;exact ⟨rfl,_,rfl,Lib.hid (by rw[HMn.out,A2.out.1];rfl)⟩
  ·have A3:=Lib.hid a3;clear a3;go_wp2;go_meet;exact ⟨rfl,_,rfl,Lib.hid (by rw[A3.out.1];simp)⟩
  ·have A3:=Lib.hid a3;clear a3;go_wp2;go_meet;exact ⟨rfl,_,rfl,Lib.hid (by rw[HMn.out,A3.out.1,A3.out.2.1];rfl)⟩
 case rest=>
  obtain ⟨rfl,b,rfl,HBB⟩:=hcut;go_upto_if 23 with (fail)
  go_cut [0,4] from 24 to 29 (λp q wx=>V=wx/\p= .string T/\q= .bool mn)
  case first=>
   rcases HSC.out with rfl|⟨h0, -,⟨a1,a2⟩|⟨a1,a2,a3⟩|⟨a1,a2,a3⟩⟩
   ·obtain rfl:T=⟨#[]⟩:=by apply ByteArray.ext;apply Array.ext';rw[HT.out];rfl
    obtain rfl:mn=false:=by rw[HMn.out];rfl
    obtain rfl:b=false:=by rw[HBB.out];rfl
    go_wp2;go_meet;exact ⟨rfl,rfl,rfl⟩
   ·obtain rfl:T=s.extract 1 s.size:=ext_tail s T (by rw[HT.out,a2.2]);obtain rfl:mn=true:=by rw[HMn.out,a2.1]
    obtain rfl:b=true:=by rw[HBB.out];rfl
    clear a2;go_wp2;go_meet;exact ⟨rfl,rfl,rfl⟩
   ·obtain rfl:T=s.extract 1 s.size:=ext_tail s T (by rw[HT.out,a3.2.2]);obtain rfl:b=true:=by rw[HBB.out,a3.1];simp
    obtain rfl:mn=false:=by rw[HMn.out,a3.2.1]
    clear a2 a3;go_wp2;go_meet;exact ⟨rfl,rfl,rfl⟩
   ·obtain rfl:T=s:=by apply ByteArray.ext;apply Array.ext';rw[HT.out,a3.2.2]
    obtain rfl:mn=false:=by rw[HMn.out,a3.2.1]
    obtain rfl:b=false:=by rw[HBB.out,a3.1];rfl
    clear a2 a3;go_wp2;go_meet;exact ⟨rfl,rfl,rfl⟩
  case rest=>
   obtain ⟨rfl,rfl,rfl⟩:=hcut;clear HBB HSC HMn HT
   go_upto_block 0 with (fail)
   go_cut [5,6,7,8] from 30 to 47 (λp q r i wx=>Gr V wx/\∃A B d,p= .string A/\q= .string B/\r= .bool d/\Hid (DotC T A B d))
   case first=>
    go_wp2
    go_loop [5,6,7,8] (λa b c i=>∃k:Nat,k<=T.size/\i= .int .i64 k/\a= .string T/\b= .string ⟨#[]⟩/\c= .bool false/\Hid (∀x∈T.data.toList.take k,(x==46)=false)) (λ_ _ _ i=>T.size-(intOf i).toNat)
    case atStart=>exact ⟨0,Nat.zero_le _,rfl,rfl,rfl,rfl,Lib.hid (λx hx=>by cases hx)⟩
    case round=>
     obtain ⟨k,hk,rfl,rfl,rfl,rfl,hx⟩:=hrel;by_cases hlt:k<T.size
     ·have hlt':(k:Int)<(T.size:Int):=by omega
      by_cases h46:T[k]=46
      ·have h46i:((T[k].toNat:Int)==46)=true:=by rw[h46];rfl
       have HD:=Lib.hid (DotC.yes hTs hlt hx.out h46);have hwp:IntKind.i64.wrap ((k:Int)+1)=(k:Int)+1:=IntWalk.i64_in _ (by omega);have hk0:0<=(k:Int)+1:=by omega
       have hk1:(k:Int)+1<=(T.size:Int):=by omega
       clear h46;go_upto_region 10 with (fail)
       refine region_Q (by kernel_rfl) (by kernel_rfl) ?_;(iterate 10 refine qv ?_);refine wpQuiet_nil ?_;intro w8 hw8;go_wp2;go_meet;exact ⟨hw8,_,_,_,rfl,rfl,rfl,HD⟩
      ·have h46b:(T[k]==46)=false:=beq_eq_false_iff_ne.2 h46;have h46i:((T[k].toNat:Int)==46)=false:=by
        rw[beq_eq_false_iff_ne];intro e;apply h46;rw[<-UInt8.toNat_inj];show _=46;omega
       have HX:Hid (∀x∈T.data.toList.take (k+1),(x==46)=false):=Lib.hid λx hm=>by
        rw[List.take_add_one,List.getElem?_eq_getElem (by simpa using hlt)] at hm;rcases List.mem_append.1 hm with h|h
        ·exact hx.out x h
        ·have:x=T.data[k]:=by simpa using h
         rw[this];exact h46b
       clear h46 h46b;go_wp2;go_round;case rel=>exact ⟨k+1,by omega,by go_num,rfl,rfl,rfl,HX⟩
       case measure=>simp[intOf];omega
     ·have hge:¬(k:Int)<(T.size:Int):=by omega
      have HD:=Lib.hid (DotC.no hTs hlt hx.out);go_wp2;go_meet;exact ⟨Gr.refl _,_,_,_,rfl,rfl,rfl,HD⟩
   case rest=>
    obtain ⟨gc,A,B,d,rfl,rfl,rfl,HD⟩:=hcut;replace v0:=bc gc hzV v0;replace v1:=bc gc hzV v1;replace u0:=bf gc hzV u0;replace u1:=bf gc hzV u1;have hzc:w.heap.size<wc.heap.size:=Nat.lt_of_lt_of_le hzV gc.size;have GC:=Lib.hid (GV.out.trans gc);clear gc;obtain ⟨DA,hDA⟩:∃b,b=allDg A.data.toList:=⟨_,rfl⟩
    obtain ⟨DB,hDB⟩:∃b,b=allDg B.data.toList:=⟨_,rfl⟩
    have hAs4:(A.size:Int)<=4096:=by have:=HD.out.1;omega
    have hBs4:(B.size:Int)<=4096:=by have:=HD.out.2.1;omega
    have HA:=Lib.hid (λw=>ref2_all A hAs4 w);have HB:=Lib.hid (λw=>ref2_all B hBs4 w);have HDW:Hid (decV s.data.toList=signV mn (match bif DA&&(!d||DB) then some (valD A.data.toList 0*1000000+fracD B.data.toList) else none with|none=>none|some n=>capN n)):=Lib.hid (by
     rw[HDV.out,HD.out.2.2.1,<-hDA,<-hDB];generalize valD A.data.toList 0*1000000+fracD B.data.toList=N;cases (DA&&(!d||DB))
     ·rfl
     ·show (bif Nat.ble N maxN then some _ else none)=signV mn (capN N);unfold capN;cases Nat.ble N maxN<;>rfl)
    rw[<-hDA] at HA;rw[<-hDB] at HB;have HDA:=Lib.hid (And.intro hDA hDB);clear hDA hDB HDV;go_upto_region 11 with (fail)
    go_cut [57] from 47 to 57 (λp wx=>wc=wx/\∃b,p= .bool b/\Hid (b= !(DA&&(!d||DB))))
    case first=>
     cases DA
     ·go_wp2_with (go_at_call 67;refine (HA.out _).mono ?_;rintro e w3 ⟨rfl,rfl⟩);go_meet;exact ⟨rfl,_,rfl,Lib.hid rfl⟩
     cases d
     ·go_wp2_with (go_at_call 67;refine (HA.out _).mono ?_;rintro e w3 ⟨rfl,rfl⟩);go_meet;exact ⟨rfl,_,rfl,Lib.hid rfl⟩
     cases DB <;>
     ·go_wp2_with (go_at_call 67;refine (ref2_all _ (by assumption) _).mono ?_;rintro e w3 ⟨rfl,rfl⟩;first|rw[<-HDA.out.1]|rw[<-HDA.out.2]);go_meet;exact ⟨rfl,_,rfl,Lib.hid rfl⟩
    case rest=>
     obtain ⟨rfl,b2,rfl,HB2⟩:=hcut;cases b2;rotate_left
     ·have HN:Hid (decV s.data.toList=none):=Lib.hid (by
       rw[HDW.out,not_t HB2.out];rfl)
      go_wp2;refine bodyPost_ret (v:= .tuple #[.agg #[.bool false, .int .i64 0], .bool false]) (by simp[results,Tryz.results42,go_sem, *]) rfl ?_;exact RetVl.none' HN.out (by have:=GC.out;exact gq)
     have HOK:Hid ((DA&&(!d||DB))=true):=Lib.hid (not_f HB2.out);have HAd:Hid (A.data.toList.all isDg=true/\B.data.toList.all isDg=true/\A.data.toList≠[]):=Lib.hid (by
      have h:=HOK.out;rw[Bool.and_eq_true] at h;have h1:allDg A.data.toList=true:=by rw[<-HDA.out.1];exact h.1
      refine ⟨allDg_all h1,?_,λe=>by rw[e] at h1;cases h1⟩;cases hd:d
      ·rw[HD.out.2.2.2 hd];rfl
      ·rw[hd] at h;exact allDg_all (by rw[<-HDA.out.2];simpa using h.2))
     have HDQ:Hid (decV s.data.toList=signV mn (refD A.data.toList B.data.toList)):=Lib.hid (by rw[HDW.out,HOK.out,ref_val];rfl);clear HB2 HA HB HOK HDA HDW HD;have HST:=Lib.hid (ref2_strip A hAs4);have HWH:Hid (∀(t:ByteArray) (W:World),t.data.toList=stripS A.data.toList->Calls Tryz.prog 68 #[.string t] W (RetCp (capS (stripS A.data.toList) 0) true W)):=Lib.hid λt W ht=>by
      have h1:=strip_pos HAd.out.2.2;rw[<-ht] at h1 ⊢;have h2:t.data.toList.length=t.size:=by simp
      have h3:=strip_len A.data.toList;rw[<-ht,h2] at h3;have h4:A.data.toList.length=A.size:=by simp
      have h5:0<t.data.toList.length:=List.length_pos_iff.2 h1;exact rwhole_any t (by omega) (by rw[ht];exact strip_all _ HAd.out.1) (by omega) W
     have HFR:=Lib.hid (λW=>frac_any B hBs4 HAd.out.2.1 W);have hfr:((fracD B.data.toList:Nat):Int)<=1000000:=by have:=frac_le HAd.out.2.1;omega
     obtain ⟨F,hF⟩:∃F,F=fracD B.data.toList:=⟨_,rfl⟩
     rw[<-hF] at HFR hfr;have HF:=Lib.hid hF;clear hF;cases hc:capS (stripS A.data.toList) 0 with
     | none=>
      have HN:Hid (decV s.data.toList=none):=Lib.hid (by rw[HDQ.out];unfold refD;rw[hc];rfl);rw[hc] at HWH;clear hc;go_wp2_with (first|(go_at_call 69;refine (HST.out _).mono ?_;rintro e w3 ⟨t,rfl,ht,rfl⟩;have Ht:=Lib.hid ht;clear ht)|(go_at_call 68;refine (HWH.out _ _ Ht.out).mono ?_;rintro e w3 ⟨rfl,rfl⟩));refine bodyPost_ret (v:= .tuple #[.agg #[.bool false, .int .i64 0], .bool false]) (by simp[results,Tryz.results42,go_sem, *]) rfl ?_;exact RetVl.none' HN.out (by have:=GC.out;exact gq)
     | some n=>
      rw[hc] at HWH;by_cases hle:(4611686018427:Int)<(n:Int)
      ·have HN:Hid (decV s.data.toList=none):=Lib.hid (by rw[HDQ.out,refD_hi hc (by omega)];rfl);clear hc;go_wp2_with (first|(go_at_call 69;refine (HST.out _).mono ?_;rintro e w3 ⟨t,rfl,ht,rfl⟩;have Ht:=Lib.hid ht;clear ht)|(go_at_call 68;refine (HWH.out _ _ Ht.out).mono ?_;rintro e w3 ⟨rfl,rfl⟩));refine bodyPost_ret (v:= .tuple #[.agg #[.bool false, .int .i64 0], .bool false]) (by simp[results,Tryz.results42,go_sem, *]) rfl ?_;exact RetVl.none' HN.out (by have:=GC.out;exact gq)
      have HX:Hid (decV s.data.toList=signV mn (capN (n*1000000+F))):=Lib.hid (by rw[HDQ.out,refD_lo hc (by omega),<-HF.out]);clear hc;obtain ⟨o,y,hof,hde,hoy⟩:=of_pick mn (n*1000000+F);rw[show ((n*1000000+F:Nat):Int)=(n:Int)*1000000+(F:Int) by simp] at hof;have HOF:Hid (∀W,Calls Tryz.prog 70 #[.int .i64 (bif mn then -((n:Int)*1000000+(F:Int)) else (n:Int)*1000000+(F:Int))] W λe w'=>e= .returned (.agg #[.bool o, .int .i64 y])/\Gr W w'):=Lib.hid λW=>by
       have:=rof_any (bif mn then -((n:Int)*1000000+(F:Int)) else (n:Int)*1000000+(F:Int)) W
       rwa [hof] at this
      have HDE:Hid (decV s.data.toList=if o=true then some y else none):=Lib.hid (by rw[HX.out];exact hde);clear hde;obtain ⟨hn0,hn1⟩:=mul_lim hle hfr;have hV1:mn=false->ofV ((n:Int)*1000000+(F:Int))=⟨o,y⟩:=λh=>by rw[h] at hof;exact hof
      have hO1:=λW=>rof_any ((n:Int)*1000000+(F:Int)) W;generalize ofV ((n:Int)*1000000+(F:Int))=V1 at hO1 hV1;have HO1:=Lib.hid hO1;have HV1:=Lib.hid hV1;clear hO1 hV1 hof;go_upto_if 78 with (first|(go_at_call 69;refine (HST.out _).mono ?_;rintro e w3 ⟨t,rfl,ht,rfl⟩;have Ht:=Lib.hid ht;clear ht)|(go_at_call 68;refine (HWH.out _ _ Ht.out).mono ?_;rintro e w3 ⟨rfl,rfl⟩)|(go_at_call 71;refine (HFR.out _).mono ?_;rintro e w3 ⟨rfl,rfl⟩)|(go_at_call 70;refine (HO1.out _).mono ?_;rintro e w5 ⟨rfl,g5⟩))
      obtain ⟨b,hb⟩:∃b,b=w5.heap.size:=⟨_,rfl⟩
      obtain ⟨W6,hW6⟩:∃W6,W6=w5.alloc (.cells #[.bool V1.ok, .int .i64 V1.n] 104):=⟨_,rfl⟩
      have hS6:DpS w b V1.ok V1.n W6:=by
       have g6:Gr wc W6:=by rw[hW6];exact g5.alloc _
       refine ⟨GC.out.trans g6,?_,?_,(bc g6 hzc v0),(bc g6 hzc v1),(bf g6 hzc u0),(bf g6 hzc u1),?_,?_⟩
       ·rw[hW6,hb];go_simp
       ·rw[hW6,hb];go_simp
       ·rw[hb];exact Nat.lt_of_lt_of_le hzc g5.size
       ·rw[hW6,hb];simp
      have hf6:W6.frozen? ⟨b,0,none⟩=false/\W6.frozen? ⟨b,1,none⟩=false:=by rw[hW6,hb];constructor<;>go_simp
      rw[<-hW6,<-hb];have HS6:=Lib.hid hS6;have HF6:=Lib.hid hf6;clear hW6 hb hS6 hf6 v0 v1 u0 u1 hzc g5 GC GV hzV
      go_cut [4,78] from 79 to 86 (λ_ _ wx=>DpS w b o y wx)
      case first=>
       cases mn
       ·go_wp2;go_meet;have e:V1=⟨o,y⟩:=by first|exact HV1.out rfl|exact HV1.out trivial|exact HV1.out
        have:=HS6.out;rw[e] at this;exact this
       ·simp only[cond_true] at HOF;go_wp2_with (first|(go_at_call 71;refine (HFR.out _).mono ?_;rintro e w3 ⟨rfl,rfl⟩)|(go_at_call 70;refine (HOF.out _).mono ?_;rintro e w7 ⟨rfl,g7⟩;have c0:=bc g7 HS6.out.lt HS6.out.c0;have c1:=bc g7 HS6.out.lt HS6.out.c1;have f0:=bf g7 HS6.out.lt HF6.out.1;have f1:=bf g7 HS6.out.lt HF6.out.2;have hb7:b<w7.heap.size:=Nat.lt_of_lt_of_le HS6.out.lt g7.size;have G7:=Lib.hid g7;clear g7));go_meet;have hne:=HS6.out.ne;have hl6:w.heap.size<W6.heap.size:=by have:=HS6.out.lt;omega
        have k:∀j,((w7.setCell ⟨b,0,none⟩ (.bool o)).setCell ⟨b,1,none⟩ (.int .i64 y)).cell? ⟨w.heap.size,j,none⟩=W6.cell? ⟨w.heap.size,j,none⟩:=λj=>by
         rw[World.cell?_setCell_other _ _ _ _ (by first|(simp;done)|(simp;omega)),World.cell?_setCell_other _ _ _ _ (by first|(simp;done)|(simp;omega))];exact Below.cell G7.out (p:=⟨w.heap.size,j,none⟩) hl6
        have k2:∀j,((w7.setCell ⟨b,0,none⟩ (.bool o)).setCell ⟨b,1,none⟩ (.int .i64 y)).frozen? ⟨w.heap.size,j,none⟩=W6.frozen? ⟨w.heap.size,j,none⟩:=λj=>by
         rw[World.frozen?_setCell,World.frozen?_setCell];exact Below.frozen G7.out (p:=⟨w.heap.size,j,none⟩) hl6
        refine ⟨((HS6.out.gr.trans G7.out).setCell (by show w.heap.size<=b;omega) _).setCell (by show w.heap.size<=b;omega) _,by go_simp,by go_simp,(k 0).trans HS6.out.v0,(k 1).trans HS6.out.v1,(k2 0).trans HS6.out.u0,(k2 1).trans HS6.out.u1,hne,by simp;exact hb7⟩
      case rest=>
       have hS:=hcut.drew;clear hcut HS6 HF6 HOF HO1 HV1 HX HFR HWH HST HDQ HF HAd;go_upto_region 19 with (fail)
       refine wp_region_Z 4 (ValS b o y) (by kernel_rfl) ?_;obtain ⟨V9,hV9⟩:∃V9,V9=wc.drew:=⟨_,rfl⟩
       rw[<-hV9] at hS ⊢;have hS0:ValS b o y V9:=⟨hS.c0,hS.c1⟩
       have HS:=Lib.hid hS;clear hV9 hS;refine zu 0 hS0 ?_ (hy:=λW hS=>by obtain ⟨k0,k1⟩:=hS;go_simp<;>rfl);refine zu 1 hS0 ?_;refine zu 2 hS0 ?_ (hy:=λW hS=>by obtain ⟨k0,k1⟩:=hS;go_simp<;>rfl);have q0:=HS.out.v0;have q1:=HS.out.v1;have p0:=HS.out.u0;have p1:=HS.out.u1;have hne:=HS.out.ne;refine zs 3 rfl (λK hK=>?_);go_wp2_with fail;refine hK.out _ _ (λhnz=>?s4) (λ_=>?r4);case s4=>exact ⟨by rw[World.cell?_setCell_other _ _ _ _ (by first|(simp;done)|(simp;omega)),World.cell?_setCell_other _ _ _ _ (by first|(simp;done)|(simp;omega))];exact hS0.1,by rw[World.cell?_setCell_other _ _ _ _ (by first|(simp;done)|(simp;omega)),World.cell?_setCell_other _ _ _ _ (by first|(simp;done)|(simp;omega))];exact hS0.2⟩
       clear hK K;try simp only[Pu,Gl]
       clear q0 q1 p0 p1;refine zs 4 rfl (λK hK=>?_);go_wp2_with fail;refine hK.out _ _ (λhnz=>?s5) (λ_=>?r5);case s5=>exact absurd rfl hnz
       clear hK K;try simp only[Pu,Gl]
       refine wpAnyZ_done (by kernel_rfl) ?_ _;go_wp2;have q0:=HS.out.v0;have q1:=HS.out.v1;have p0:=HS.out.u0;have p1:=HS.out.u1;refine bodyPost_ret (v:= .tuple #[.agg #[.bool o, .int .i64 y], .bool o]) (by simp[results,Tryz.results42,go_sem, *]) rfl ?_;have hg:Gr w ((V9.setCell ⟨w.heap.size,0,none⟩ (.bool o)).setCell ⟨w.heap.size,1,none⟩ (.int .i64 y)):=(HS.out.gr.setCell (by show w.heap.size<=w.heap.size;omega) _).setCell (by show w.heap.size<=w.heap.size;omega) _;cases o
       ·obtain rfl:=hoy rfl;exact RetVl.none' HDE.out hg
       ·exact RetVl.some' HDE.out hg
end Go.Proofs.YtjapddfnpmlifaaGreatDoor
