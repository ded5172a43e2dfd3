import Derived.Test.YtoncapkmaeghfaaGreatRunWhFit
import Derived.Test.YtoncapkmaeghfaaGreatRunFxBase
import Derived.Deep.Cut
import Derived.Deep.CutRange
import Derived.Test.YtoncapkmaeghfaaGreatWhShelf
import Derived.OrdersHeld
import Derived.Deep.RegionHeld
import Derived.StillTail
import Derived.Laws.CopyOwn
set_option linter.all false
set_option maxRecDepth 1000000
set_option maxHeartbeats 12800000
namespace Go.Proofs.YtoncapkmaeghfaaGreat
section
open Go.RowKit Go.ChangeMaps Go.Maps
def nmA:ByteArray:= "a".toUTF8
def Blk (w:World) (Q:Nat→Prop) (A:Option Addr) (l:List UInt8):Prop:=(A=none∧l=[])∨∃g,A=some ⟨g,0,none⟩∧g<w.heap.size∧Q g
theorem Blk.imp {w:World} {Q Q':Nat→Prop} {A:Option Addr} {l:List UInt8} (h:Blk w Q A l) (hq:∀g,g<w.heap.size→Q g→Q' g):Blk w Q' A l:=by
 rcases h with h|⟨g,e,hg,q⟩
 ·
  exact .inl h
 ·
  exact .inr ⟨g,e,hg,hq g hg q⟩
theorem Blk.kp {w w':World} {Q:Nat→Prop} {A:Option Addr} {l:List UInt8} {S:Nat→Prop} (h:Blk w Q A l) (k:Kp S w w') (hS:∀g,g<w.heap.size→Q g→¬S g) (hr:Rb w A l):Rb w' A l∧Blk w' Q A l:=by
 rcases h with ⟨e,e2⟩|⟨g,e,hg,q⟩
 ·
  subst e2
  exact ⟨⟨rfl,fun h=>absurd h (by simp)⟩, .inl ⟨e,rfl⟩⟩
 ·
  exact ⟨k.rd hr (fun _ ad e'=>by rw[e] at e';injection e' with e';rw[←e'];exact hS g hg q), .inr ⟨g,e,Nat.lt_of_lt_of_le hg k.size,q⟩⟩
theorem Blk.pos {w:World} {Q:Nat→Prop} {A:Option Addr} {l:List UInt8} (h:Blk w Q A l) (h0:0<l.length):∃g,A=some ⟨g,0,none⟩∧g<w.heap.size∧Q g:=by
 rcases h with ⟨_,e⟩|h
 ·
  rw[e] at h0;cases h0
 ·
  exact h
theorem Blk.dec {w:World} {Q:Nat→Prop} {A:Option Addr} {l:List UInt8} (h:Blk w Q A l) {k:Nat} (hk:k<w.heap.size):∃b,(0<l.length→A=some ⟨b,0,none⟩)∧b<w.heap.size:=by
 rcases h with ⟨_,e⟩|⟨g,e,hg, -⟩
 ·
  exact ⟨k,(fun h=>absurd h (by rw[e];simp)),hk⟩
 ·
  exact ⟨g,fun _=>e,hg⟩
def MpA (w:World) (M:Nat) (Q:Nat→Prop):Option (List UInt8)→Prop
 | none=>∃clk,w.heap[M]?=some (.map #[] clk)
 | some l=>∃clk born A c,w.heap[M]?=some (.map #[⟨.string nmA, .slice A l.length c,born⟩] clk)∧l.length≤c∧Rb w A l∧Blk w Q A l
structure FsM (Y:Nat→Prop) (w:World) (F P M:Nat) (R:Option Nat) (room:Int) (n:Nat) (D:Option (List UInt8)):Prop where
 lf:F<w.heap.size
 lp:P<w.heap.size
 lm:M<w.heap.size
 nfp:F≠P
 nfm:F≠M
 npm:P≠M
 f0:w.cell? ⟨F,0,none⟩=some (.pointer (some ⟨P,0,none⟩))
 f1:w.cell? ⟨F,1,none⟩=some (.int .i64 room)
 f2:w.cell? ⟨F,2,none⟩=some (.map (some M))
 p0:∃v xs,w.cell? ⟨P,0,none⟩=some v∧v.ownBlock=R∧w.ownsRow 0 115 4 v n xs
 p1:∃y,w.cell? ⟨P,1,none⟩=some y
 z0:w.frozen? ⟨P,0,none⟩=false
 z1:w.frozen? ⟨P,1,none⟩=false
 rr:∀k,R=some k→k≠F∧k≠P∧k≠M
 yl:∀k,Y k→k<w.heap.size
 mp:MpA w M (fun g=>g≠P∧g≠M∧R≠some g∧¬Y g) D
def Tch (P M:Nat) (R:Option Nat) (k:Nat):Prop:=k=P∨k=M∨R=some k
theorem FsM.kp {w w':World} {Y:Nat→Prop} {F P M:Nat} {R:Option Nat} {room:Int} {n:Nat} {D:Option (List UInt8)} {S:Nat→Prop} (h:FsM Y w F P M R room n D) (k:Kp S w w') (hF:¬S F) (hP:¬S P) (hM:¬S M) (hR:∀i,R=some i→¬S i) (hD:∀g,g<w.heap.size→S g→g=F∨g=P∨g=M∨R=some g∨w.heap.size≤g∨D=none∨Y g):FsM Y w' F P M R room n D:=by
 obtain ⟨v,xs,v1,v2,v3⟩:=h.p0
 obtain ⟨y,hy⟩:=h.p1
 refine ⟨Nat.lt_of_lt_of_le h.lf k.size,Nat.lt_of_lt_of_le h.lp k.size,Nat.lt_of_lt_of_le h.lm k.size,h.nfp,h.nfm,h.npm,(k.cell (a:=⟨F,0,none⟩) h.lf hF).trans h.f0,(k.cell (a:=⟨F,1,none⟩) h.lf hF).trans h.f1,(k.cell (a:=⟨F,2,none⟩) h.lf hF).trans h.f2,
  ⟨v,xs,(k.cell (a:=⟨P,0,none⟩) h.lp hP).trans v1,v2,k.own v3 (fun i hi=>hR i (by rw[←v2];exact hi))⟩,⟨y,(k.cell (a:=⟨P,1,none⟩) h.lp hP).trans hy⟩,(k.frozen (a:=⟨P,0,none⟩) h.lp hP).trans h.z0,(k.frozen (a:=⟨P,1,none⟩) h.lp hP).trans h.z1,h.rr,fun i hi=>Nat.lt_of_lt_of_le (h.yl i hi) k.size,?_⟩
 cases D with
 | none=>
  obtain ⟨clk,hb⟩:=h.mp
  exact ⟨clk,(k.block M h.lm hM).trans hb⟩
 | some l=>
  obtain ⟨clk,born,A,c,hb,hc,hr,hq⟩:=h.mp
  have h2:=hq.kp k (fun g hg hq hS=>by
   rcases hD g hg hS with e|e|e|e|e|e|e
   ·
    exact hF (e▸hS)
   ·
    exact hq.1 e
   ·
    exact hq.2.1 e
   ·
    exact hq.2.2.1 e
   ·
    omega
   ·
    cases e
   ·
    exact hq.2.2.2 e) hr
  exact ⟨clk,born,A,c,(k.block M h.lm hM).trans hb,hc,h2.1,h2.2⟩
theorem FsM.gr {w w':World} {Y:Nat→Prop} {F P M:Nat} {R:Option Nat} {room:Int} {n:Nat} {D:Option (List UInt8)} (h:FsM Y w F P M R room n D) (g:Gr w w'):FsM Y w' F P M R room n D:=
 h.kp (Kp.of_gr (fun _=>False) g) (fun h=>h) (fun h=>h) (fun h=>h) (fun _ _ h=>h) (fun _ _ h=>h.elim)
theorem isName_any (s:ByteArray) (w:World):Calls Tryz.prog 46 #[.string s] w fun e w'=>e= .returned (.bool (decide (1≤s.size)&&decide (s.size≤255)))∧w=w':=by
 by_cases h1:1≤s.size
 ·
  have h1i:(1:Int)≤(s.size:Int):=by omega
  by_cases h2:s.size≤255
  ·
   have h2i:(s.size:Int)≤255:=by omega
   have HD:Hid ((decide (1≤s.size)&&decide (s.size≤255))=true):=Lib.hid (by rw[decide_eq_true h1,decide_eq_true h2];rfl)
   clear h1 h2
   go_enter Tryz.func46,Tryz.ntmps46
   go_wp2
   go_ret
   exact ⟨ret_b (by rw[HD.out]),rfl⟩
  ·
   have h2i:¬(s.size:Int)≤255:=by omega
   have HD:Hid ((decide (1≤s.size)&&decide (s.size≤255))=false):=Lib.hid (by rw[decide_eq_false h2,Bool.and_false])
   clear h1 h2
   go_enter Tryz.func46,Tryz.ntmps46
   go_wp2
   go_ret
   exact ⟨ret_b (by rw[HD.out]),rfl⟩
 ·
  have h1i:¬(1:Int)≤(s.size:Int):=by omega
  have HD:Hid ((decide (1≤s.size)&&decide (s.size≤255))=false):=Lib.hid (by rw[decide_eq_false h1,Bool.false_and])
  clear h1
  go_enter Tryz.func46,Tryz.ntmps46
  go_wp2
  go_ret
  exact ⟨ret_b (by rw[HD.out]),rfl⟩
theorem total_any (b o n c:Nat) (ls:List (List UInt8)) (hn:ls.length=n) (hn9:n≤1000) (hs:(ls.map List.length).sum≤1073741824) (w:World) (hc:∀k (h:k<ls.length),∃A d,w.cell? ⟨b,o+k,none⟩=some (.slice A ls[k].length d)) :
  Calls Tryz.prog 47 #[.int .i64 1073741824, .slice (some ⟨b,o,none⟩) n c] w fun e w'=>e= .returned (.int .i64 ((ls.map List.length).sum:Nat))∧w=w':=by
 have hni:(n:Int)≤1000:=by omega
 have hst:∀k (h:k<ls.length),((ls.take (k+1)).map List.length).sum=((ls.take k).map List.length).sum+ls[k].length:=fun k h=>by
  rw[List.take_succ_eq_append_getElem h,List.map_append,List.sum_append]
  simp
 have hle:∀k,((ls.take k).map List.length).sum≤(ls.map List.length).sum:=fun k=>by
  conv=>rhs;rw[←List.take_append_drop k ls,List.map_append,List.sum_append]
  omega
 have HH:=Lib.hid (And.intro hst (And.intro hle (And.intro hc (And.intro hs hn))))
 clear hst hle hc hs hn hn9
 go_enter Tryz.func47,Tryz.ntmps47
 go_wp2
 go_loopw [10,5] (fun i v wr=>∃k:Nat,k≤n∧i= .int .i64 k∧v= .int .i64 (((ls.take k).map List.length).sum:Nat)∧Gr w wr∧wr=w) (fun i _ _=>n-(intOf i).toNat)
 case atStart=>exact ⟨0,Nat.zero_le _,rfl,rfl,Gr.refl _,by first|trivial|rfl⟩
 case round=>
  obtain ⟨k,hk,rfl,rfl, -,hww⟩:=hrel
  subst hww
  by_cases hlt:k<n
  ·
   have hlti:(k:Int)<(n:Int):=by omega
   have hkl:k<ls.length:=by rw[HH.out.2.2.2.2];exact hlt
   obtain ⟨A,d,cs⟩:=HH.out.2.2.1 k hkl
   have HS:=Lib.hid (HH.out.1 k hkl)
   have hb1:=HH.out.2.1 (k+1)
   have hb2:=HH.out.2.2.2.1
   rw[HS.out] at hb1
   generalize ls[k].length=X at *
   obtain ⟨T,hT⟩:∃T,T=((ls.take k).map List.length).sum:=⟨_,rfl⟩
   rw[←hT] at HS hb1 ⊢
   have hTi:(T:Int)+(X:Int)≤1073741824:=by omega
   have hTX:¬(1073741824:Int)-(T:Int)<(X:Int):=by omega
   clear hb1 hb2 hT hkl
   go_wp2
   go_roundw
   case rel=>exact ⟨k+1,by omega,by go_num,by rw[HS.out];go_num,Gr.refl _,by first|trivial|rfl⟩
   case measure=>simp[intOf];omega
  ·
   have hkk:k=n:=by omega
   subst hkk
   have HE:Hid (((ls.take k).map List.length).sum=(ls.map List.length).sum):=Lib.hid (by rw[List.take_of_length_le (by rw[HH.out.2.2.2.2];exact Nat.le_refl _)])
   go_wp2
   go_ret
   exact ⟨ret_i (by rw[HE.out]),rfl⟩
end
open Go.RowKit
def nums (l:List UInt8):List Int:=l.map fun b=>(b.toNat:Int)
theorem nums_len (l:List UInt8):(nums l).length=l.length:=by simp[nums]
theorem nums_bytes (l:List UInt8):Lib.bytesOf (nums l)=l:=by
 unfold Lib.bytesOf nums
 rw[List.map_map]
 conv=>rhs;rw[←List.map_id l]
 apply List.map_congr_left
 intro b _
 simp
theorem nums_bys (l:List UInt8):(nums l).map (Value.int .u8)=bys l:=by
 unfold nums bys
 rw[List.map_map]
 rfl
theorem nums_at (l:List UInt8) (i:Nat) (h:i<l.length):(nums l).getD i 0=(l[i].toNat:Int):=by
 unfold nums
 rw[List.getD_eq_getElem?_getD,List.getElem?_map,List.getElem?_eq_getElem h]
 rfl
theorem Rb.nums {w:World} {A:Option Addr} {l:List UInt8} (h:Rb w A l):Lib.BytesIn w A l.length (nums l):=by
 rcases Nat.eq_zero_or_pos l.length with h0|h0
 ·
  rw[h0];exact Lib.BytesIn.nil _ _ _
 ·
  obtain ⟨ad,e,hb,hc⟩:=h.2 h0
  subst e
  exact Lib.BytesIn.of_cells fun i hi=>by rw[nums_at l i hi];exact hc i _ (bys_at l i hi)
theorem prefix_any (A B:Option Addr) (c d:Nat) (l p:List UInt8) (w:World) (hl:Rb w A l) (hp:Rb w B p) (hc:l.length≤c):Calls Tryz.prog 100 #[.slice A l.length c, .slice B p.length d] w fun e w'=>e= .returned (.bool (p.isPrefixOf l))∧w=w':=
 (Tryz.bytes_HasPrefix_all A B l.length c p.length d (nums l) (nums p) w (nums_len l) (nums_len p) hc hl.nums hp.nums).mono fun e w' h=>⟨h.1.trans (by rw[nums_bytes,nums_bytes];rfl),h.2.symm⟩
theorem clone_any (a:Addr) (c:Nat) (l:List UInt8) (hb:l.length≤140737488355328) (w:World) (hl:Rb w (some a) l):Calls Tryz.prog 79 #[.slice (some a) l.length c] w fun e w'=>∃g d,e= .returned (.slice (some ⟨g,0,none⟩) l.length d)∧l.length≤d∧w'.ownsRow w.heap.size 5 1 (.slice (some ⟨g,0,none⟩) l.length d) l.length (bys l)∧Gr w w':=by
 refine (Tryz.bytes_Clone_at a l.length c (nums l) w (nums_len l) hb fun i hi=>?_).mono ?_
 ·
  obtain ⟨ad,e, -,hc⟩:=hl.2 (by omega)
  injection e with e
  subst e
  rw[nums_at l i hi]
  exact hc i _ (bys_at l i hi)
 ·
  rintro e w' ⟨v',rfl,ho,hne,g⟩
  rw[nums_bys] at ho
  have ho':=ho
  obtain ⟨h1,⟨hv,h0⟩|⟨g',cap,cur,hv,hbs,hh,hnc,h2⟩⟩:=ho'
  ·
   exact absurd hv hne
  ·
   subst hv
   exact ⟨g',cap,rfl,hnc,ho,g⟩
section
open Go.RowKit Go.ChangeMaps Go.Maps
theorem nmA_ok:(decide (1≤nmA.size)&&decide (nmA.size≤255))=true:=by decide
theorem keyA:∃kl,keyOf Tryz.prog 9 (.string nmA)=some kl:=key_str Tryz.underlying9 nmA (by decide)
theorem keyedS:Keyed Tryz.prog 9:=string_keyed Tryz.underlying9
theorem zeroSU (w:World):(zeroValue 49).run Tryz.prog w= .ok (.slice none 0 0) w:=by
 obtain ⟨i0,hi,hz⟩:∃i0,Tryz.prog.info? 49=some i0∧i0.zero=some (.slice none 0 0):=by
  have h:(Tryz.prog.info? 49).map (·.zero)=some (some (.slice none 0 0)):=by kernel_rfl
  cases hx:Tryz.prog.info? 49 with
  | none=>rw[hx] at h;cases h
  | some i0=>rw[hx] at h;injection h with h;exact ⟨i0,rfl,h⟩
 simp[zeroValue,typeInfo,hi,hz]
theorem find_some {Y:Nat→Prop} {F P M:Nat} {R:Option Nat} {room:Int} {n:Nat} {l:List UInt8} (w:World) (h:FsM Y w F P M R room n (some l)):Calls Tryz.prog 78 #[.pointer (some ⟨F,0,none⟩), .string nmA] w fun e w'=>∃A c,e= .returned (.tuple #[.slice A l.length c, .int .i64 0])∧w=w'∧l.length≤c∧Rb w A l∧Blk w (fun _=>True) A l:=by
 have f2:=h.f2
 obtain ⟨clk,born,g,c,hb,hc,hr,hg⟩:=h.mp
 have hg:=hg.imp (Q':=fun _=>True) (fun _ _ _=>trivial)
 obtain ⟨kl,hkl⟩:=keyA
 have HX:=Lib.hid (And.intro hc (And.intro hr hg))
 clear hc hr hg
 have hl:=look_one (P:=Tryz.prog) Tryz.underlying74 keyedS hkl hb true
 simp only[if_true] at hl
 clear h hb
 go_enter Tryz.func78,Tryz.ntmps78
 go_wp2_with (go_at_call 46;refine (isName_any nmA _).mono ?_;rintro e w1 ⟨rfl,rfl⟩;rw[nmA_ok])
 go_ret2
 exact ⟨g,c,rfl,rfl,HX.out⟩
theorem fsize_some {Y:Nat→Prop} {F P M:Nat} {R:Option Nat} {room:Int} {n:Nat} {l:List UInt8} (w:World) (h:FsM Y w F P M R room n (some l)):Calls Tryz.prog 40 #[.pointer (some ⟨F,0,none⟩), .string nmA] w fun e w'=>e= .returned (.tuple #[.int .i64 l.length, .int .i64 0])∧w=w':=by
 have H1:=Lib.hid (find_some w h)
 clear h
 go_enter Tryz.func40,Tryz.ntmps40
 go_wp2_with (go_at_call 78;refine H1.out.mono ?_;rintro e w1 ⟨g,c,rfl,rfl, -⟩)
 go_ret2
 exact ⟨rfl,rfl⟩
theorem clone_gen (A:Option Addr) (c:Nat) (l:List UInt8) (hb:(l.length:Int)≤1073741824) (w:World) (hl:Rb w A l):Calls Tryz.prog 79 #[.slice A l.length c] w fun e w'=>∃A' d,e= .returned (.slice A' l.length d)∧l.length≤d∧(d:Int)≤9223372036854775807∧(0<l.length→w'.ownsRow w.heap.size 5 1 (.slice A' l.length d) l.length (bys l))∧Rb w' A' l∧Blk w' (fun g=>w.heap.size≤g) A' l∧Gr w w':=by
 cases A with
 | none=>
  have e0:l=[]:=by
   cases l with
   | nil=>rfl
   | cons x r=>obtain ⟨ad,e, -⟩:=hl.2 (by simp);cases e
  subst e0
  refine (Tryz.bytes_Clone_nil 0 c w).mono ?_
  rintro e w' ⟨rfl,rfl⟩
  exact ⟨none,0,rfl,Nat.le_refl _,by decide,fun h=>absurd h (by simp),Rb.nil _ _, .inl ⟨rfl,rfl⟩,Gr.refl _⟩
 | some a=>
  refine (clone_any a c l (by omega) w hl).mono ?_
  rintro e w' ⟨g,d,rfl,hd,ho,hg⟩
  have hlt:=ho.lt g rfl
  refine ⟨some ⟨g,0,none⟩,d,rfl,hd,?_,fun _=>ho,Rb.own ho, .inr ⟨g,rfl,hlt.2,hlt.1⟩,hg⟩
  obtain ⟨h1,⟨hv,h0⟩|⟨g',cap,cur,hv,hb,hh,h2,h3,h4,h5⟩⟩:=ho
  ·
   cases hv
  ·
   injection hv with _ _ hv3
   subst hv3
   unfold maxLen at h3
   omega

theorem read_gen {Y:Nat→Prop} {F P M:Nat} {R:Option Nat} {room:Int} {n:Nat} {l:List UInt8} (hl:(l.length:Int)≤1073741824) (w:World) (h:FsM Y w F P M R room n (some l)):Calls Tryz.prog 41 #[.pointer (some ⟨F,0,none⟩), .string nmA, .int .i64 0, .int .i64 l.length] w fun e w'=>∃A' d,e= .returned (.tuple #[.slice A' l.length d, .int .i64 0])∧l.length≤d∧(d:Int)≤9223372036854775807∧(0<l.length→w'.ownsRow w.heap.size 5 1 (.slice A' l.length d) l.length (bys l))∧Rb w' A' l∧Blk w' (fun g=>w.heap.size≤g) A' l∧Gr w w':=by
 have H1:=Lib.hid (find_some w h)
 have hz:=IntWalk.i64_in (l.length:Int) (by omega)
 have HL:=Lib.hid hl
 clear h
 go_enter Tryz.func41,Tryz.ntmps41
 go_upto_region 6 with (go_at_call 78;refine H1.out.mono ?_;rintro e w1 ⟨A,c,rfl,rfl,hc,hr,hg⟩;have hcI:(l.length:Int)≤(c:Int):=(by omega);have HR:=Lib.hid hr;have HG:=Lib.hid hg;clear hr hg)
 rcases HG.out with ⟨e1,e2⟩|⟨g,e1, -⟩
 ·
  subst e1
  have HC:Hid (∀c',Calls Tryz.prog 79 #[.slice none l.length c'] w fun e w'=>∃A' d,e= .returned (.slice A' l.length d)∧l.length≤d∧(d:Int)≤9223372036854775807∧(0<l.length→w'.ownsRow w.heap.size 5 1 (.slice A' l.length d) l.length (bys l))∧Rb w' A' l∧Blk w' (fun g=>w.heap.size≤g) A' l∧Gr w w'):=Lib.hid fun c'=>clone_gen none c' l HL.out w HR.out
  clear e2 HG
  go_wp2_with (go_at_call 79;refine (HC.out _).mono ?_;rintro e w2 ⟨A2,d2,rfl,hh⟩;have HZ:=Lib.hid hh;clear hh)
  go_ret2
  exact ⟨A2,d2,rfl,HZ.out⟩
 ·
  subst e1
  have HC:Hid (∀c',Calls Tryz.prog 79 #[.slice (some ⟨g,0,none⟩) l.length c'] w fun e w'=>∃A' d,e= .returned (.slice A' l.length d)∧l.length≤d∧(d:Int)≤9223372036854775807∧(0<l.length→w'.ownsRow w.heap.size 5 1 (.slice A' l.length d) l.length (bys l))∧Rb w' A' l∧Blk w' (fun g=>w.heap.size≤g) A' l∧Gr w w'):=Lib.hid fun c'=>clone_gen (some ⟨g,0,none⟩) c' l HL.out w HR.out
  clear HG
  go_wp2_with (go_at_call 79;refine (HC.out _).mono ?_;rintro e w2 ⟨A2,d2,rfl,hh⟩;have HZ:=Lib.hid hh;clear hh)
  go_ret2
  exact ⟨A2,d2,rfl,HZ.out⟩
theorem read_all {Y:Nat→Prop} {F P M:Nat} {R:Option Nat} {room:Int} {n:Nat} {l:List UInt8} (h0:0<l.length) (hl:(l.length:Int)≤1073741824) (w:World) (h:FsM Y w F P M R room n (some l)):Calls Tryz.prog 41 #[.pointer (some ⟨F,0,none⟩), .string nmA, .int .i64 0, .int .i64 l.length] w fun e w'=>∃g d,e= .returned (.tuple #[.slice (some ⟨g,0,none⟩) l.length d, .int .i64 0])∧l.length≤d∧w'.ownsRow w.heap.size 5 1 (.slice (some ⟨g,0,none⟩) l.length d) l.length (bys l)∧Gr w w':=by
 refine (read_gen hl w h).mono ?_
 rintro e w' ⟨A,d,rfl,hd, -,ho,hr,hb,hg⟩
 obtain ⟨g,rfl, -⟩:=hb.pos h0
 exact ⟨g,d,rfl,hd,ho h0,hg⟩
end
open Go
section
variable {P:Program} {ops:Array Oper} {Q:Exit→Act→World→Prop} {md:Region.Mode} {S:World→Prop} {z:Nat}
def wpAnyZ (P:Program) (md:Region.Mode) (ops:Array Oper) (Q:Exit→Act→World→Prop) (S:World→Prop) (z:Nat):Nat→Array Bool→Act→World→Prop
 | 0,listed,a,w=>Region.ready md ops listed=[]∧Q .normal a w
 | fuel+1,listed,a,w=>
  (Region.ready md ops listed=[]→Q .normal a w)∧
  ∀i∈Region.ready md ops listed,wpOp P ops Q i (fun a' w'=>(i≠z→S w')∧wpAnyZ P md ops Q S z fuel (listed.setIfInBounds i true) a' w') a w
theorem wpAny_of_Z:∀(fuel:Nat) (listed:Array Bool) (a:Act) (w:World),wpAnyZ P md ops Q S z fuel listed a w→wpAny P md ops Q fuel listed a w
 | 0,_,_,_,h=>h
 | fuel+1,_,_,_,h=>⟨h.1,fun i hi=>wpOp_mono (fun a' w' h'=>wpAny_of_Z fuel _ a' w' h'.2) (h.2 i hi)⟩
def lastB (md:Region.Mode) (ops:Array Oper) (z:Nat):Bool:=decide (z<ops.size)&&decide (ops.size≤z+1)&&Region.sinkB md ops z&&Region.chainB md ops z
def closedB (md:Region.Mode) (ops:Array Oper) (z:Nat) (listed:Array Bool):Bool:=
 decide (listed.size=ops.size)&&((List.range ops.size).all fun j=> !listed.getD j false||((ops[j]?).map (·.after.all fun e=> !Region.binds md e||listed.getD e.on false)).getD true)&&(List.range ops.size).all fun t=>decide (t<z) || !listed.getD t true
theorem closed_inv {listed:Array Bool} (h:closedB md ops z listed=true):HeadInv md ops z listed:=by
 unfold closedB at h
 simp only[Bool.and_eq_true,decide_eq_true_eq] at h
 obtain ⟨⟨h0,h1⟩,h2⟩:=h
 refine ⟨h0,fun j oj hj hl e he hb=>?_,fun t ht ht'=>?_⟩
 ·
  have h3:=List.all_eq_true.1 h1 j (List.mem_range.2 (Array.getElem?_eq_some_iff.1 hj).1)
  rw[hl,hj] at h3
  simp only[Bool.not_true,Bool.false_or,Option.map_some,Option.getD_some] at h3
  have h4:=Array.all_eq_true'.1 h3 e he
  rw[hb] at h4
  simpa using h4
 ·
  have h3:=List.all_eq_true.1 h2 t (List.mem_range.2 ht')
  simp only[Bool.or_eq_true,decide_eq_true_eq,Bool.not_eq_true'] at h3
  rcases h3 with h3|h3
  ·
   omega
  ·
   exact h3
theorem wpAnyZ_first {i:Nat} {oi:Oper} {v:Value} (hi:ops[i]?=some oi) (hiz:i<z) (hsel:∀(j:Nat) (o:Oper) cs b,ops[j]?=some o→o.op ≠ .select cs b)
  (hlast:lastB md ops z=true) (hQ:∀c a w,Q (.panic c) (a.put oi.dst v) w→Q (.panic c) a w) :
  ∀(fuel:Nat) (listed:Array Bool) (a:Act) (w:World),HeadInv md ops z listed→
   (∀j oj,ops[j]?=some oj→j≠i→listed.getD j true=false→(∀e∈oj.after,Region.binds md e=true→e.on≠i)→oi.apart ops oj=true)→
   i∈Region.ready md ops listed→YieldsIf P ops S oi v a→S w→
   wpAnyZ P md ops Q S z fuel (listed.setIfInBounds i true) (a.put oi.dst v) w→wpAnyZ P md ops Q S z (fuel+1) listed a w:=by
 have hl:=hlast
 unfold lastB at hl
 simp only[Bool.and_eq_true,decide_eq_true_eq] at hl
 obtain ⟨⟨⟨hzs,hze⟩,hsink⟩,hchain⟩:=hl
 intro fuel
 induction fuel with
 | zero=>
  intro listed a w _ _ hr hy hS H
  refine ⟨fun h=>(by rw[h] at hr;cases hr),fun j hj=>?_⟩
  by_cases hji:j=i
  ·
   subst hji;exact hy.wpOp hi hS ⟨fun _=>hS,H⟩
  ·
   have:=ready_mono hj hji
   rw[H.1] at this
   cases this
 | succ fuel ih=>
  intro listed a w inv hfree hr hy hS H
  refine ⟨fun h=>(by rw[h] at hr;cases hr),fun j hj=>?_⟩
  by_cases hji:j=i
  ·
   subst hji;exact hy.wpOp hi hS ⟨fun _=>hS,H⟩
  ·
   have h1:=H.2 j (ready_mono hj hji)
   obtain ⟨hjun,oj,hoj,hall⟩:=mem_ready.1 hj
   have hiun:=(mem_ready.1 hr).1
   have hjz:j<z:=by
    rcases Nat.lt_or_ge j z with h|h
    ·
     exact h
    ·
     exact absurd hj (tail_waits hsink hchain hzs inv _ i rfl hiz hiun j h)
   have hnot:∀e∈oj.after,Region.binds md e=true→e.on≠i:=fun e he hb heq=>by
    have h1:=hall e he hb
    rw[heq,getD_both hiun] at h1
    cases h1
   have h2:=wpOp_putIf hoj (hfree j oj hoj hji hjun hnot) (fun cs b=>hsel i oi cs b hi) (fun cs b=>hsel j oj cs b hoj) hQ hy h1
   have hfree':∀k ok,ops[k]?=some ok→k≠i→(listed.setIfInBounds j true).getD k true=false→
     (∀e∈ok.after,Region.binds md e=true→e.on≠i)→oi.apart ops ok=true:=fun k ok hk hki hun hno=>by
    refine hfree k ok hk hki ?_ hno
    by_cases hjk:j=k
    ·
     subst hjk;exact hjun
    ·
     rw[getD_set_ne true hjk] at hun;exact hun
   refine wpOp_mono (fun a' w' h3=>⟨h3.2.1,ih (listed.setIfInBounds j true) a' w' (inv.set hj hjz) hfree' (ready_mono hr (Ne.symm hji)) h3.1 (h3.2.1 (by omega)) ?_⟩) h2
   rw[Array.setIfInBounds_comm _ _ hji]
   exact h3.2.2
theorem wpAnyZ_take {i:Nat} {oi:Oper} {v:Value} {fuel:Nat} {listed:Array Bool} {a:Act} {w:World} (hi:ops[i]?=some oi) (hlast:(decide (i<z)&&lastB md ops z&&closedB md ops z listed&&Region.noSelect ops&&Region.free md ops listed i&&(Region.ready md ops listed).contains i)=true)
  (hQ:∀c a w,Q (.panic c) (a.put oi.dst v) w→Q (.panic c) a w) (hw:Region.wanted oi (yielded ops a.tmps)=true) (hy:∀w,S w→(execOp a.eval oi).run P w= .ok (.value v) w) (hS:S w)
  (h:wpAnyZ P md ops Q S z fuel (listed.setIfInBounds i true) (a.put oi.dst v) w):wpAnyZ P md ops Q S z (fuel+1) listed a w:=by
 simp only[Bool.and_eq_true,decide_eq_true_eq] at hlast
 obtain ⟨⟨⟨⟨⟨h0,h1⟩,h2⟩,h3⟩,h4⟩,h5⟩:=hlast
 exact wpAnyZ_first hi h0 (Region.noSelect_spec h3) h1 hQ fuel listed a w (closed_inv h2) (Region.free_spec hi h4) (by simpa using h5) (Or.inl ⟨hw,hy⟩) hS h
def AllReadyZ (P:Program) (md:Region.Mode) (ops:Array Oper) (Q:Exit→Act→World→Prop) (S:World→Prop) (z fuel:Nat) (listed:Array Bool) (a:Act) (w:World) (rs:List Nat):Prop:=
 ∀i∈rs,wpOp P ops Q i (fun a' w'=>(i≠z→S w')∧wpAnyZ P md ops Q S z fuel (listed.setIfInBounds i true) a' w') a w
theorem AllReadyZ.nil {fuel:Nat} {listed:Array Bool} {a:Act} {w:World}:AllReadyZ P md ops Q S z fuel listed a w []:=fun _ h=>by cases h
theorem AllReadyZ.cons {fuel:Nat} {listed:Array Bool} {a:Act} {w:World} {i:Nat} {o:Oper} {rs:List Nat} (ho:ops[i]?=some o) (hw:Region.wanted o (yielded ops a.tmps)=true)
  (h:∀K':Act→World→Prop,Shut (∀a w,(i≠z→S w)→((i≠z→S w)→wpAnyZ P md ops Q S z fuel (listed.setIfInBounds i true) a w)→K' a w)→Oper.wp P o a w K' Q)
  (hs:AllReadyZ P md ops Q S z fuel listed a w rs):AllReadyZ P md ops Q S z fuel listed a w (i::rs):=fun j hj=>by
 rcases List.mem_cons.1 hj with rfl|hj
 ·
  exact wpOp_step ho (fun K' hK=>by rw[if_pos hw];exact h K' (fun a w hS hW=>hK a w ⟨hS,hW hS⟩))
 ·
  exact hs j hj
theorem wpAnyZ_ready {rs:List Nat} {fuel:Nat} {listed:Array Bool} {a:Act} {w:World} (hr:Region.ready md ops listed=rs) (hne:rs≠[])
  (h:AllReadyZ P md ops Q S z fuel listed a w rs):wpAnyZ P md ops Q S z (fuel+1) listed a w:=
 ⟨fun h0=>absurd (hr▸h0) hne,hr▸h⟩
theorem zu {oi:Oper} {v:Value} {fuel:Nat} {listed listed':Array Bool} {a a':Act} {w:World} (i:Nat) (hi:ops[i]?=some oi) (hS:S w) (hy:∀w,S w→(execOp a.eval oi).run P w= .ok (.value v) w) (h:wpAnyZ P md ops Q S z fuel listed' a' w) (hlast:(decide (i<z)&&lastB md ops z&&closedB md ops z listed&&Region.noSelect ops&&Region.free md ops listed i&&(Region.ready md ops listed).contains i)=true:=by kernel_rfl) (hQ:∀c a w,Q (.panic c) (a.put oi.dst v) w→Q (.panic c) a w:=by exact fun _ _ _ h=>h) (hw:Region.wanted oi (yielded ops a.tmps)=true:=by rfl) (ha:a.put oi.dst v=a':=by first|(simp only[Act.put,List.getElem_toArray,List.getElem_cons_succ,List.getElem_cons_zero,List.setIfInBounds_toArray,List.set_cons_zero,List.set_cons_succ];done)|(simp only[Act.put,List.getElem_toArray,List.getElem_cons_succ,List.getElem_cons_zero,List.setIfInBounds_toArray,List.set_cons_zero,List.set_cons_succ];rfl)|rfl) (hl:listed.setIfInBounds i true=listed':=by first|(simp only[Act.put,List.getElem_toArray,List.getElem_cons_succ,List.getElem_cons_zero,List.setIfInBounds_toArray,List.set_cons_zero,List.set_cons_succ];done)|(simp only[Act.put,List.getElem_toArray,List.getElem_cons_succ,List.getElem_cons_zero,List.setIfInBounds_toArray,List.set_cons_zero,List.set_cons_succ];rfl)|rfl):wpAnyZ P md ops Q S z (fuel+1) listed a w:=by
 subst ha hl
 exact wpAnyZ_take hi hlast hQ hw hy hS h
theorem zs {fuel:Nat} {listed:Array Bool} {a:Act} {w:World} {o:Oper} (i:Nat) (ho:ops[i]?=some o) (h:∀K':Act→World→Prop,Shut (∀a w,(i≠z→S w)→((i≠z→S w)→wpAnyZ P md ops Q S z fuel (listed.setIfInBounds i true) a w)→K' a w)→Oper.wp P o a w K' Q) (hr:Region.ready md ops listed=[i]:=by kernel_rfl) (hw:Region.wanted o (yielded ops a.tmps)=true:=by rfl):wpAnyZ P md ops Q S z (fuel+1) listed a w:=wpAnyZ_ready hr (by simp) (AllReadyZ.cons ho hw h AllReadyZ.nil)
theorem wpAnyZ_done {listed:Array Bool} {a:Act} {w:World} (hr:Region.ready md ops listed=[]) (h:Q .normal a w):∀fuel,wpAnyZ P md ops Q S z fuel listed a w
 | 0=>⟨hr,h⟩
 | _+1=>⟨fun _=>h,by rw[hr];simp⟩
theorem wp_region_Z (z:Nat) (S:World→Prop) {id:Nat} {a:Act} {w:World} (hm:P.follows .mixedOrders=true)
  (h:wpAnyZ P .any ops Q S z ops.size (Array.replicate ops.size false) a w.drew):(Code.region id ops true).wp P Q a w:=
 wp_region_any hm (wpAny_of_Z _ _ _ _ h)
end
section
open Go.RowKit Go.ChangeMaps Go.Maps
theorem Kp.blk {S:Nat→Prop} {w w':World} {M:Nat} {o':Obj} (h:Kp S w w') (hb:w'.heap[M]?=some o') (hM:S M∨w.heap.size≤M) (o:Obj):Kp S w (setBlock w' M o):=
 ⟨h.os,h.tape,h.output,Nat.le_trans h.size (by simp[setBlock]),fun k hk hn=>(show (setBlock w' M o).heap[k]?=w'.heap[k]? from by
  unfold setBlock
  rw[Array.getElem?_setIfInBounds_ne (fun e=>by
   rcases hM with h1|h1
   ·
    exact hn (e▸h1)
   ·
    omega)]).trans (h.block k hk hn)⟩
theorem FsM.updB {w:World} {Y:Nat→Prop} {F P M:Nat} {R:Option Nat} {room:Int} {n:Nat} {D:Option (List UInt8)} (h:FsM Y w F P M R room n D) {l:List UInt8} {A:Option Addr} {c:Nat} (hc:l.length≤c) (hr:Rb w A l) (hq:Blk w (fun g=>g≠P∧g≠M∧R≠some g∧¬Y g) A l) (clk born:Nat) :
  FsM Y (setBlock w M (.map #[⟨.string nmA, .slice A l.length c,born⟩] clk)) F P M R room n (some l)∧Kp (fun k=>k=M) w (setBlock w M (.map #[⟨.string nmA, .slice A l.length c,born⟩] clk)):=by
 obtain ⟨o',hb⟩:∃o',w.heap[M]?=some o':=⟨_,Array.getElem?_eq_getElem h.lm⟩
 have k:Kp (fun k=>k=M) w (setBlock w M (.map #[⟨.string nmA, .slice A l.length c,born⟩] clk)):=(Kp.refl (fun k=>k=M) _).blk hb (.inl (show M=M from rfl)) _
 obtain ⟨v,xs,v1,v2,v3⟩:=h.p0
 obtain ⟨y,hy⟩:=h.p1
 refine ⟨⟨Nat.lt_of_lt_of_le h.lf k.size,Nat.lt_of_lt_of_le h.lp k.size,Nat.lt_of_lt_of_le h.lm k.size,h.nfp,h.nfm,h.npm,(k.cell (a:=⟨F,0,none⟩) h.lf h.nfm).trans h.f0,(k.cell (a:=⟨F,1,none⟩) h.lf h.nfm).trans h.f1,(k.cell (a:=⟨F,2,none⟩) h.lf h.nfm).trans h.f2,
  ⟨v,xs,(k.cell (a:=⟨P,0,none⟩) h.lp h.npm).trans v1,v2,k.own v3 (fun i hi=>(h.rr i (by rw[←v2];exact hi)).2.2)⟩,⟨y,(k.cell (a:=⟨P,1,none⟩) h.lp h.npm).trans hy⟩,(k.frozen (a:=⟨P,0,none⟩) h.lp h.npm).trans h.z0,(k.frozen (a:=⟨P,1,none⟩) h.lp h.npm).trans h.z1,h.rr,fun i hi=>Nat.lt_of_lt_of_le (h.yl i hi) k.size,?_⟩,k⟩
 have hk2:=hq.kp k (fun g _ hq e=>hq.2.1 e) hr
 refine ⟨clk,born,A,c,?_,hc,hk2.1,hk2.2⟩
 unfold setBlock
 rw[Array.getElem?_setIfInBounds_self_of_lt h.lm]
theorem FsM.upd {w:World} {Y:Nat→Prop} {F P M:Nat} {R:Option Nat} {room:Int} {n:Nat} {D:Option (List UInt8)} (h:FsM Y w F P M R room n D) {l:List UInt8} {g c:Nat} (hc:l.length≤c) (hr:Rb w (some ⟨g,0,none⟩) l) (hg:g<w.heap.size) (hq:g≠P∧g≠M∧R≠some g∧¬Y g) (clk born:Nat) :
  FsM Y (setBlock w M (.map #[⟨.string nmA, .slice (some ⟨g,0,none⟩) l.length c,born⟩] clk)) F P M R room n (some l)∧Kp (fun k=>k=M) w (setBlock w M (.map #[⟨.string nmA, .slice (some ⟨g,0,none⟩) l.length c,born⟩] clk)):=
 h.updB hc hr (.inr ⟨g,rfl,hg,hq⟩) clk born
theorem applies_create {Y:Nat→Prop} {F P M:Nat} {R:Option Nat} {room:Int} {n:Nat} (l:List UInt8) (gd:Option Addr) (d:Nat) (hl:(l.length:Int)≤1073741824) (w:World) (h:FsM Y w F P M R room n none) (hd:Rb w gd l) :
  Calls Tryz.prog 83 #[.pointer (some ⟨F,0,none⟩), .agg #[.int .i64 0, .string nmA, .int .i64 0, .slice gd l.length d]] w fun e w'=>e= .returned (.tuple #[])∧FsM Y w' F P M R room n (some l)∧Kp (fun k=>k=M) w w':=by
 obtain ⟨V,hV⟩:∃V,V=w.alloc (.cells #[.int .i64 0, .string nmA, .int .i64 0, .slice gd l.length d] 115):=⟨_,rfl⟩
 have gV:Gr w V:=by rw[hV];exact Gr.alloc (Gr.refl w) _
 have hz:w.heap.size<V.heap.size:=by rw[hV];simp
 have c0:V.cell? ⟨w.heap.size,0,none⟩=some (.int .i64 0):=by rw[hV];go_simp
 have c1:V.cell? ⟨w.heap.size,1,none⟩=some (.string nmA):=by rw[hV];go_simp
 have c3:V.cell? ⟨w.heap.size,3,none⟩=some (.slice gd l.length d):=by rw[hV];go_simp
 have hF:=h.gr gV
 have f2:=hF.f2
 have lfV:=hF.lf
 have HF:=Lib.hid (And.intro hF (hd.gr gV))
 have HV:=Lib.hid hV
 have HG:=Lib.hid gV
 have hsw:=gV.size
 have HRW:=Lib.hid h
 clear hV gV h hd hF
 obtain ⟨kl,hkl⟩:=keyA
 go_enter Tryz.func83,Tryz.ntmps83
 go_upto_region 1 with (fail)
 rw[←HV.out]
 clear HV
 go_upto_region 4 with (fail)
 refine wp_region_Z 9 (Gr V) (by kernel_rfl) ?_
 have hS0:Gr V V.drew:=Gr.drew (Gr.refl _)
 obtain ⟨W0,hW0⟩:∃W0,W0=V.drew:=⟨_,rfl⟩
 rw[←hW0] at hS0 ⊢
 clear hW0
 refine zu 0 rfl hS0 (fun W hS=>by go_simp;rfl) ?_
 refine zu 1 rfl hS0 (fun W hS=>by go_simp;rfl) ?_
 refine zu 2 rfl hS0 (fun W hS=>by go_simp;rfl) ?_
 refine zu 3 rfl hS0 (fun W hS=>by have s2:=(Below.cell hS (p:=⟨F,2,none⟩) lfV).trans f2;go_simp;rfl) ?_
 refine zu 4 rfl hS0 (fun W hS=>by go_simp;rfl) ?_
 refine zu 5 rfl hS0 (fun W hS=>by have s1:=(Below.cell hS (p:=⟨w.heap.size,1,none⟩) hz).trans c1;go_simp;rfl) ?_
 refine zu 6 rfl hS0 (fun W hS=>by go_simp;rfl) ?_
 refine zu 7 rfl hS0 (fun W hS=>by have s3:=(Below.cell hS (p:=⟨w.heap.size,3,none⟩) hz).trans c3;go_simp;rfl) ?_
 refine wpAnyZ_ready (rs:=[8]) (by kernel_rfl) (by simp) ?_
 refine AllReadyZ.cons (i:=8) rfl (by kernel_rfl) ?zx1 AllReadyZ.nil
 intro K hK
 simp only[List.getElem_toArray,List.getElem_cons_succ,List.getElem_cons_zero]
 go_simp
 refine (clone_gen gd d l hl _ (HF.out.2.gr hS0)).mono ?_;rintro x W1 ⟨A1,e,rfl,he, -, -,ho,hbk,g1⟩
 have hS1:Gr V W1:=hS0.trans g1
 have HO:=Lib.hid (And.intro he (And.intro ho hbk))
 have HS:=Lib.hid hS0
 clear he ho hbk g1 hS0
 go_wp2_with fail
 refine hK.out _ _ (fun hnz=>?zs2) (fun _=>?zr3)
 case zs2=>exact hS1
 clear hK K
 try (simp only[Pu,List.getElem_toArray,List.getElem_cons_succ,List.getElem_cons_zero])
 have hF1:=HF.out.1.gr hS1
 obtain ⟨clk,hb⟩:=hF1.mp
 have hu:=upd_none (P:=Tryz.prog) (w:=W1) Tryz.underlying74 keyedS hkl hb (.slice A1 l.length e)
 have hg0:=HS.out.size
 have hup:=hF1.updB (l:=l) (A:=A1) (c:=e) HO.out.1 HO.out.2.1 (HO.out.2.2.imp (fun g hg hgl=>⟨fun h=>by have:=HF.out.1.lp;omega,fun h=>by have:=HF.out.1.lm;omega,fun h=>by
  obtain ⟨v,xs,v1,v2,v3⟩:=HF.out.1.p0
  have:=(v3.lt g (by rw[v2];exact h)).2
  omega,fun h=>by have:=HF.out.1.yl g h;omega⟩)) (clk+1) clk
 have HU:=Lib.hid hup
 clear hup hg0 hF1
 refine wpAnyZ_ready (rs:=[9]) (by kernel_rfl) (by simp) ?_
 refine AllReadyZ.cons (i:=9) rfl (by kernel_rfl) ?zx4 AllReadyZ.nil
 intro K hK
 simp only[List.getElem_toArray,List.getElem_cons_succ,List.getElem_cons_zero]
 go_simp
 refine hK.out _ _ (fun hnz=>?zs5) (fun _=>?zr6)
 case zs5=>exact absurd rfl hnz
 clear hK K
 try (simp only[Pu,List.getElem_toArray,List.getElem_cons_succ,List.getElem_cons_zero])
 refine wpAnyZ_done (by kernel_rfl) ?_ _
 go_wp2
 go_end0
 exact ⟨rfl,HU.out.1,(Kp.of_gr _ (HG.out.trans hS1)).trans HU.out.2 (fun i _ h=>h)⟩
end
section
open Go.RowKit Go.ChangeMaps Go.Maps
def putB (l:List UInt8) (k:Nat) (d:List UInt8):List UInt8:=l.take k++(d++l.drop (k+d.length))
theorem putB_len {l:List UInt8} {k:Nat} {d:List UInt8} (h:k+d.length≤l.length):(putB l k d).length=l.length:=by
 unfold putB
 simp
 omega
theorem bys_drop (l:List UInt8) (k:Nat):bys (l.drop k)=(bys l).drop k:=by simp[bys]
theorem bys_take (l:List UInt8) (k:Nat):bys (l.take k)=(bys l).take k:=by simp[bys]
theorem splice_bys {l d:List UInt8} {k:Nat} (rest:List Value) (h:k+d.length≤l.length):splice (bys l++rest) k (bys d)=bys (putB l k d)++rest:=by
 have e:(bys l).length=l.length:=by simp[bys]
 have e2:(bys d).length=d.length:=by simp[bys]
 unfold splice putB
 rw[bys_append,bys_append,bys_drop,bys_take,List.take_append_of_le_length (by omega),List.drop_append_of_le_length (by omega),e2,List.append_assoc,List.append_assoc]
theorem own_open {w:World} {base g n d:Nat} {e:TypeId} {l:List UInt8} (h:w.ownsRow base e 1 (.slice (some ⟨g,0,none⟩) n d) n (bys l)):∃(rest:List Value) (t:TypeId),w.heap[g]?=some (.cells (bys l++rest).toArray t (0,0)):=by
 obtain ⟨h1,⟨hv,h0⟩|⟨g',cap,cur,hv,hbs,hh,h2⟩⟩:=h
 ·
  cases hv
 ·
  injection hv with ha hn hc
  injection ha with ha
  injection ha with ha _ _
  subst ha
  obtain ⟨-, -, -,ht⟩:=h2
  refine ⟨cur.toList.drop n,e,?_⟩
  rw[hh,←ht,Nat.mul_one,List.take_append_drop]
theorem wp_copy_splice {P:Program} {ops:Array Oper} {o:Oper} {a:Act} {w:World} {K:Act→World→Prop} {Q:Exit→Act→World→Prop} (hgd:o.guard=none) (d s:Operand) (dT sT:TypeId)
  (ho:o.op= .call {callee:= .builtin .copy,args:= #[d,s],argTypes:= #[dT,sT]}) (elem:TypeId) (hu:P.underlying dT=some (.slice elem)) (hsz:(P.info? elem).map (·.size)=some 1)
  (dp sp:Option Addr) (dLen dCap sLen sCap:Nat) (hd:a.eval d= .slice dp dLen dCap) (hs:a.eval s= .slice sp sLen sCap)
  (g off:Nat) (cur:List Value) (t:TypeId) (hg:w.heap[g]?=some (.cells cur.toArray t (0,0))) (cs:List Value) (hn:cs.length=Nat.min sLen dLen)
  (hpos:0<cs.length→dp=some ⟨g,off,none⟩∧∃ad,sp=some ad∧∀j v,cs[j]?=some v→w.cell? (ad.add j)=some v)
  (hfit:off+cs.length≤cur.length) (h1:∀v∈cs,v.oneCell'=true) (B:Nat) (w0:World) (hb:RowKit.Below B w0 w) (hBg:B≤g)
  (h:∀w',RowKit.Hid (w'.heap[g]?=some (.cells (splice cur off cs).toArray t (0,0)))→RowKit.Below B w0 w'→K (a.put o.dst (goInt cs.length)) w'):Oper.wp P o a w K Q:=by
 have h':=step_copy_splice (P:=P) (ops:=ops) (E:=True) (Q:=Q) (K:=K) (o:=o) (a:=a) (w:=w) hgd d s dT sT ho elem hu hsz dp sp dLen dCap sLen sCap hd hs g off cur t hg cs hn hpos hfit h1 B w0 hb hBg h
 rwa [if_pos (by simp[Region.wanted,hgd])] at h'
theorem block_rb {w:World} {g:Nat} {l:List UInt8} {rest:List Value} {t:TypeId} (h:w.heap[g]?=some (.cells (bys l++rest).toArray t (0,0))):Rb w (some ⟨g,0,none⟩) l:=by
 refine ⟨by rw[bys_length],fun _=>⟨_,rfl,(Array.getElem?_eq_some_iff.1 h).1,fun j u hu=>?_⟩⟩
 have hj:=(List.getElem?_eq_some_iff.1 hu).1
 rw[show (⟨g,0,none⟩:Addr).add j=⟨g,j,none⟩ by simp[Addr.add];omega]
 simp[World.cell?,h,List.getElem?_append_left hj,hu]
theorem info_one:(Tryz.prog.info? 5).map (·.size)=some 1:=by kernel_rfl
theorem applies_write {Y:Nat→Prop} {F P M:Nat} {R:Option Nat} {room:Int} {n:Nat} (l m:List UInt8) (o gd d:Nat) (hl:(l.length:Int)≤1073741824) (hl0:0<l.length) (hom:o+m.length≤l.length) (w:World) (h:FsM Y w F P M R room n (some l)) (hd:Rb w (some ⟨gd,0,none⟩) m) :
  Calls Tryz.prog 83 #[.pointer (some ⟨F,0,none⟩), .agg #[.int .i64 1, .string nmA, .int .i64 o, .slice (some ⟨gd,0,none⟩) m.length d]] w fun e w'=>e= .returned (.tuple #[])∧FsM Y w' F P M R room n (some (putB l o m))∧Kp (fun k=>k=M) w w':=by
 obtain ⟨V,hV⟩:∃V,V=w.alloc (.cells #[.int .i64 1, .string nmA, .int .i64 o, .slice (some ⟨gd,0,none⟩) m.length d] 115):=⟨_,rfl⟩
 have gV:Gr w V:=by rw[hV];exact Gr.alloc (Gr.refl w) _
 have hz:w.heap.size<V.heap.size:=by rw[hV];simp
 have c0:V.cell? ⟨w.heap.size,0,none⟩=some (.int .i64 1):=by rw[hV];go_simp
 have c1:V.cell? ⟨w.heap.size,1,none⟩=some (.string nmA):=by rw[hV];go_simp
 have c2:V.cell? ⟨w.heap.size,2,none⟩=some (.int .i64 o):=by rw[hV];go_simp
 have c3:V.cell? ⟨w.heap.size,3,none⟩=some (.slice (some ⟨gd,0,none⟩) m.length d):=by rw[hV];go_simp
 have hF:=h.gr gV
 have f2:=hF.f2
 have lfV:=hF.lf
 have lmV:=hF.lm
 obtain ⟨clk,born,A0,cc,hb,hcc,hrb,hq0⟩:=hF.mp
 obtain ⟨g0,rfl,hg0, -⟩:=hq0.pos hl0
 have HF:=Lib.hid (And.intro hF (And.intro (hd.gr gV) hrb))
 have HV:=Lib.hid hV
 have HG:=Lib.hid gV
 have hoi:(o:Int)≤(l.length:Int):=by omega
 clear hV gV h hd hF hq0 hcc hrb
 obtain ⟨kl,hkl⟩:=keyA
 go_enter Tryz.func83,Tryz.ntmps83
 go_upto_region 1 with (fail)
 rw[←HV.out]
 clear HV
 go_upto_region 6 with (fail)
 refine wp_region_Z 8 (Gr V) (by kernel_rfl) ?_
 have hS0:Gr V V.drew:=Gr.drew (Gr.refl _)
 obtain ⟨W0,hW0⟩:∃W0,W0=V.drew:=⟨_,rfl⟩
 rw[←hW0] at hS0 ⊢
 clear hW0
 refine zu 0 rfl hS0 (fun W hS=>by go_simp;rfl) ?_
 refine zu 1 rfl hS0 (fun W hS=>by go_simp;rfl) ?_
 refine zu 2 rfl hS0 (fun W hS=>by go_simp;rfl) ?_
 refine zu 3 rfl hS0 (fun W hS=>by have s2:=(Below.cell hS (p:=⟨F,2,none⟩) lfV).trans f2;go_simp;rfl) ?_
 refine zu 4 rfl hS0 (fun W hS=>by go_simp;rfl) ?_
 refine zu 5 rfl hS0 (fun W hS=>by have s1:=(Below.cell hS (p:=⟨w.heap.size,1,none⟩) hz).trans c1;go_simp;rfl) ?_
 refine wpAnyZ_take (i:=6) (v:=?v7) rfl (by kernel_rfl) (fun _ _ _ h=>h) (by rfl) (fun W hS=>?h7) hS0 ?r7
 case h7=>
  have hl:=look_one (P:=Tryz.prog) (w:=W) Tryz.underlying74 keyedS hkl ((Below.block hS M lmV).trans hb) false
  simp only[Bool.false_eq_true,if_false] at hl
  go_simp
  rfl
 simp only[Act.put,List.getElem_toArray,List.getElem_cons_succ,List.getElem_cons_zero,List.setIfInBounds_toArray,List.set_cons_zero,List.set_cons_succ]
 refine wpAnyZ_ready (rs:=[7]) (by kernel_rfl) (by simp) ?_
 refine AllReadyZ.cons (i:=7) rfl (by kernel_rfl) ?zx1 AllReadyZ.nil
 intro K hK
 simp only[List.getElem_toArray,List.getElem_cons_succ,List.getElem_cons_zero]
 go_simp
 refine (clone_any ⟨g0,0,none⟩ cc l (by omega) _ (HF.out.2.2.gr hS0)).mono ?_;rintro x W1 ⟨g,e2,rfl,he,ho,g1⟩
 have HB0:Hid (Gr V W1):=Lib.hid (hS0.trans g1)
 have HZ0:=Lib.hid (Nat.le_trans hS0.size (Nat.le_of_eq rfl))
 have hge:=(ho.lt g (by rfl))
 have HGB:Hid (V.heap.size≤g):=Lib.hid (Nat.le_trans hS0.size hge.1)
 obtain ⟨rest,T,hgb⟩:=own_open ho
 clear ho g1 hge
 go_wp2_with fail
 refine hK.out _ _ (fun hnz=>?zs2) (fun _=>?zr3)
 case zs2=>exact HB0.out
 clear hK K
 try (simp only[Pu,List.getElem_toArray,List.getElem_cons_succ,List.getElem_cons_zero])
 refine wpAnyZ_ready (rs:=[8]) (by kernel_rfl) (by simp) ?_
 refine AllReadyZ.cons (i:=8) rfl (by kernel_rfl) ?zx4 AllReadyZ.nil
 intro K hK
 simp only[List.getElem_toArray,List.getElem_cons_succ,List.getElem_cons_zero]
 go_simp
 refine hK.out _ _ (fun hnz=>?zs5) (fun _=>?zr6)
 case zs5=>exact absurd rfl hnz
 clear hK K
 try (simp only[Pu,List.getElem_toArray,List.getElem_cons_succ,List.getElem_cons_zero])
 refine wpAnyZ_done (by kernel_rfl) ?_ _
 go_upto_region 7 with (fail)
 have hoe:(o:Int)≤(e2:Int):=by omega
 have hoe2:o≤e2:=by omega
 have hsub:(l.length:Int)-(o:Int)=((l.length-o:Nat):Int):=by omega
 by_cases hcap:e2=o
 ·
  have HPOS:Hid (0<(bys m).length→False):=Lib.hid (fun h=>by rw[bys_length] at h;omega)
  refine wp_region_Z 6 (Gr V) (by kernel_rfl) ?_
  obtain ⟨W2,hW2⟩:∃W2,W2=W1.drew:=⟨_,rfl⟩
  have hS1:Gr V W2:=by rw[hW2];exact Gr.drew HB0.out
  have hgb1:W2.heap[g]?=some (.cells (bys l++rest).toArray T (0,0)):=by rw[hW2];exact hgb
  rw[←hW2]
  clear hW2
  refine zu 0 rfl hS1 (fun W hS=>by go_simp;rfl) ?_
  refine zu 1 rfl hS1 (fun W hS=>by go_simp;rfl) ?_
  refine zu 2 rfl hS1 (fun W hS=>by have s2:=(Below.cell hS (p:=⟨w.heap.size,2,none⟩) hz).trans c2;go_simp;rfl) ?_
  refine zu 3 rfl hS1 (fun W hS=>by go_simp;rfl) ?_
  refine zu 4 rfl hS1 (fun W hS=>by go_simp;rfl) ?_
  refine zu 5 rfl hS1 (fun W hS=>by have s3:=(Below.cell hS (p:=⟨w.heap.size,3,none⟩) hz).trans c3;go_simp;rfl) ?_
  refine wpAnyZ_ready (rs:=[6]) (by kernel_rfl) (by simp) ?_
  refine AllReadyZ.cons (i:=6) rfl (by kernel_rfl) ?zx7 AllReadyZ.nil
  intro K hK
  simp only[List.getElem_toArray,List.getElem_cons_succ,List.getElem_cons_zero]
  refine wp_copy_splice (ops:= #[]) rfl (.tmp 37) (.tmp 39) 49 49 rfl 5 Tryz.underlying49 info_one _ (some ⟨gd,0,none⟩) (l.length-o) _ m.length d rfl rfl g o (bys l++rest) T hgb1 (bys m) (by rw[bys_length,Nat.mul_one];exact (Nat.min_eq_left (by omega)).symm) (fun h=>(HPOS.out h).elim) (by rw[List.length_append,bys_length,bys_length];omega) (bys_one _) V.heap.size V hS1 HGB.out ?_
  intro W3 hg3 hb3
  have hg4:W3.heap[g]?=some (.cells (bys (putB l o m)++rest).toArray T (0,0)):=by rw[←splice_bys rest hom];exact hg3
  have hS3:Gr V W3:=hb3
  have HG4:=Lib.hid hg4
  clear hg3 hb3 hg4 hgb1 hS1
  refine hK.out _ _ (fun hnz=>?zs8) (fun _=>?zr9)
  case zs8=>exact absurd rfl hnz
  clear hK K
  try (simp only[Pu,List.getElem_toArray,List.getElem_cons_succ,List.getElem_cons_zero])
  refine wpAnyZ_done (by kernel_rfl) ?_ _
  go_upto_region 8 with (fail)
  refine wp_region_Z 7 (Gr V) (by kernel_rfl) ?_
  obtain ⟨W4,hW4⟩:∃W4,W4=W3.drew:=⟨_,rfl⟩
  have hS2:Gr V W4:=by rw[hW4];exact Gr.drew hS3
  have hg5:W4.heap[g]?=some (.cells (bys (putB l o m)++rest).toArray T (0,0)):=by rw[hW4];exact HG4.out
  rw[←hW4]
  clear hW4 hS3
  have HG5:=Lib.hid hg5
  clear hg5
  refine zu 0 rfl hS2 (fun W hS=>by go_simp;rfl) ?_
  refine zu 1 rfl hS2 (fun W hS=>by go_simp;rfl) ?_
  refine zu 2 rfl hS2 (fun W hS=>by go_simp;rfl) ?_
  refine zu 3 rfl hS2 (fun W hS=>by have s2:=(Below.cell hS (p:=⟨F,2,none⟩) lfV).trans f2;go_simp;rfl) ?_
  refine zu 4 rfl hS2 (fun W hS=>by go_simp;rfl) ?_
  refine zu 5 rfl hS2 (fun W hS=>by have s1:=(Below.cell hS (p:=⟨w.heap.size,1,none⟩) hz).trans c1;go_simp;rfl) ?_
  refine zu 6 rfl hS2 (fun W hS=>by go_simp;rfl) ?_
  have hb4:=(Below.block hS2 M lmV).trans hb
  have hu:=upd_one (P:=Tryz.prog) (w:=W4) Tryz.underlying74 keyedS hkl hb4 (.slice (some ⟨g,0,none⟩) l.length o)
  have hpl:=putB_len hom
  have hup:=(HF.out.1.gr hS2).upd (l:=putB l o m) (g:=g) (c:=o) (by rw[hpl];omega) (block_rb HG5.out) (Array.getElem?_eq_some_iff.1 HG5.out).1 ⟨fun h=>by have:=HF.out.1.lp;have:=HGB.out;omega,fun h=>by have:=HF.out.1.lm;have:=HGB.out;omega,fun h=>by
   obtain ⟨v,xs,v1,v2,v3⟩:=HF.out.1.p0
   have:=(v3.lt g (by rw[v2];exact h)).2
   have:=HGB.out
   omega,fun h=>by have:=HF.out.1.yl g h;have:=HGB.out;omega⟩ clk born
  rw[hpl] at hup
  have HU:=Lib.hid hup
  have HS2:=Lib.hid hS2
  clear hup hpl hb4
  refine wpAnyZ_ready (rs:=[7]) (by kernel_rfl) (by simp) ?_
  refine AllReadyZ.cons (i:=7) rfl (by kernel_rfl) ?zx10 AllReadyZ.nil
  intro K hK
  simp only[List.getElem_toArray,List.getElem_cons_succ,List.getElem_cons_zero]
  go_simp
  refine hK.out _ _ (fun hnz=>?zs11) (fun _=>?zr12)
  case zs11=>exact absurd rfl hnz
  clear hK K
  try (simp only[Pu,List.getElem_toArray,List.getElem_cons_succ,List.getElem_cons_zero])
  refine wpAnyZ_done (by kernel_rfl) ?_ _
  go_wp2
  go_end0
  exact ⟨rfl,HU.out.1,(Kp.of_gr _ (HG.out.trans HS2.out)).trans HU.out.2 (fun i _ h=>h)⟩
 ·
  have hcap2:¬e2≤o:=by omega
  have hcap3:o<e2:=by omega
  have HPOS:Hid (∀j v,(bys m)[j]?=some v→V.cell? ((⟨gd,0,none⟩:Addr).add j)=some v):=Lib.hid (fun j v hv=>by
   have hj:j<m.length:=by have:=(List.getElem?_eq_some_iff.1 hv).1;simpa [bys] using this
   obtain ⟨ad,e, -,hcl⟩:=HF.out.2.1.2 (by omega)
   injection e with e
   subst e
   exact hcl j v hv)
  have HGD:Hid (0<m.length→gd<V.heap.size):=Lib.hid (fun hp=>by obtain ⟨ad,e,hb, -⟩:=HF.out.2.1.2 hp;injection e with e;subst e;exact hb)
  refine wp_region_Z 6 (Gr V) (by kernel_rfl) ?_
  obtain ⟨W2,hW2⟩:∃W2,W2=W1.drew:=⟨_,rfl⟩
  have hS1:Gr V W2:=by rw[hW2];exact Gr.drew HB0.out
  have hgb1:W2.heap[g]?=some (.cells (bys l++rest).toArray T (0,0)):=by rw[hW2];exact hgb
  rw[←hW2]
  clear hW2
  refine zu 0 rfl hS1 (fun W hS=>by go_simp;rfl) ?_
  refine zu 1 rfl hS1 (fun W hS=>by go_simp;rfl) ?_
  refine zu 2 rfl hS1 (fun W hS=>by have s2:=(Below.cell hS (p:=⟨w.heap.size,2,none⟩) hz).trans c2;go_simp;rfl) ?_
  refine zu 3 rfl hS1 (fun W hS=>by go_simp;rfl) ?_
  refine zu 4 rfl hS1 (fun W hS=>by go_simp;rfl) ?_
  refine zu 5 rfl hS1 (fun W hS=>by have s3:=(Below.cell hS (p:=⟨w.heap.size,3,none⟩) hz).trans c3;go_simp;rfl) ?_
  refine wpAnyZ_ready (rs:=[6]) (by kernel_rfl) (by simp) ?_
  refine AllReadyZ.cons (i:=6) rfl (by kernel_rfl) ?zx13 AllReadyZ.nil
  intro K hK
  simp only[List.getElem_toArray,List.getElem_cons_succ,List.getElem_cons_zero]
  refine wp_copy_splice (ops:= #[]) rfl (.tmp 37) (.tmp 39) 49 49 rfl 5 Tryz.underlying49 info_one _ (some ⟨gd,0,none⟩) (l.length-o) _ m.length d rfl rfl g o (bys l++rest) T hgb1 (bys m) (by rw[bys_length,Nat.mul_one];exact (Nat.min_eq_left (by omega)).symm) (fun h=>⟨rfl,⟨gd,0,none⟩,rfl,fun j v hv=>by rw[bys_length] at h;exact (Below.cell hS1 (p:=(⟨gd,0,none⟩:Addr).add j) (by rw[add_blk];exact HGD.out (by omega))).trans (HPOS.out j v hv)⟩) (by rw[List.length_append,bys_length,bys_length];omega) (bys_one _) V.heap.size V hS1 HGB.out ?_
  intro W3 hg3 hb3
  have hg4:W3.heap[g]?=some (.cells (bys (putB l o m)++rest).toArray T (0,0)):=by rw[←splice_bys rest hom];exact hg3
  have hS3:Gr V W3:=hb3
  have HG4:=Lib.hid hg4
  clear hg3 hb3 hg4 hgb1 hS1
  refine hK.out _ _ (fun hnz=>?zs14) (fun _=>?zr15)
  case zs14=>exact absurd rfl hnz
  clear hK K
  try (simp only[Pu,List.getElem_toArray,List.getElem_cons_succ,List.getElem_cons_zero])
  refine wpAnyZ_done (by kernel_rfl) ?_ _
  go_upto_region 8 with (fail)
  refine wp_region_Z 7 (Gr V) (by kernel_rfl) ?_
  obtain ⟨W4,hW4⟩:∃W4,W4=W3.drew:=⟨_,rfl⟩
  have hS2:Gr V W4:=by rw[hW4];exact Gr.drew hS3
  have hg5:W4.heap[g]?=some (.cells (bys (putB l o m)++rest).toArray T (0,0)):=by rw[hW4];exact HG4.out
  rw[←hW4]
  clear hW4 hS3
  have HG5:=Lib.hid hg5
  clear hg5
  refine zu 0 rfl hS2 (fun W hS=>by go_simp;rfl) ?_
  refine zu 1 rfl hS2 (fun W hS=>by go_simp;rfl) ?_
  refine zu 2 rfl hS2 (fun W hS=>by go_simp;rfl) ?_
  refine zu 3 rfl hS2 (fun W hS=>by have s2:=(Below.cell hS (p:=⟨F,2,none⟩) lfV).trans f2;go_simp;rfl) ?_
  refine zu 4 rfl hS2 (fun W hS=>by go_simp;rfl) ?_
  refine zu 5 rfl hS2 (fun W hS=>by have s1:=(Below.cell hS (p:=⟨w.heap.size,1,none⟩) hz).trans c1;go_simp;rfl) ?_
  refine zu 6 rfl hS2 (fun W hS=>by go_simp;rfl) ?_
  have hb4:=(Below.block hS2 M lmV).trans hb
  have hu:=upd_one (P:=Tryz.prog) (w:=W4) Tryz.underlying74 keyedS hkl hb4 (.slice (some ⟨g,0,none⟩) l.length e2)
  have hpl:=putB_len hom
  have hup:=(HF.out.1.gr hS2).upd (l:=putB l o m) (g:=g) (c:=e2) (by rw[hpl];omega) (block_rb HG5.out) (Array.getElem?_eq_some_iff.1 HG5.out).1 ⟨fun h=>by have:=HF.out.1.lp;have:=HGB.out;omega,fun h=>by have:=HF.out.1.lm;have:=HGB.out;omega,fun h=>by
   obtain ⟨v,xs,v1,v2,v3⟩:=HF.out.1.p0
   have:=(v3.lt g (by rw[v2];exact h)).2
   have:=HGB.out
   omega,fun h=>by have:=HF.out.1.yl g h;have:=HGB.out;omega⟩ clk born
  rw[hpl] at hup
  have HU:=Lib.hid hup
  have HS2:=Lib.hid hS2
  clear hup hpl hb4
  refine wpAnyZ_ready (rs:=[7]) (by kernel_rfl) (by simp) ?_
  refine AllReadyZ.cons (i:=7) rfl (by kernel_rfl) ?zx16 AllReadyZ.nil
  intro K hK
  simp only[List.getElem_toArray,List.getElem_cons_succ,List.getElem_cons_zero]
  go_simp
  refine hK.out _ _ (fun hnz=>?zs17) (fun _=>?zr18)
  case zs17=>exact absurd rfl hnz
  clear hK K
  try (simp only[Pu,List.getElem_toArray,List.getElem_cons_succ,List.getElem_cons_zero])
  refine wpAnyZ_done (by kernel_rfl) ?_ _
  go_wp2
  go_end0
  exact ⟨rfl,HU.out.1,(Kp.of_gr _ (HG.out.trans HS2.out)).trans HU.out.2 (fun i _ h=>h)⟩
end
end Go.Proofs.YtoncapkmaeghfaaGreat
