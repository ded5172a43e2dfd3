import Derived.Test.YtoncapkmaeghfaaGreatRunVfMap
import Derived.Test.YtoncapkmaeghfaaGreatWhShelf
import Derived.OrdersHeld
import Derived.Deep.RegionHeld
import Derived.StillTail
set_option linter.all false
set_option maxRecDepth 1000000
set_option maxHeartbeats 12800000
namespace Go.Proofs.YtoncapkmaeghfaaGreat
open Go.RowKit
def FlR (w:World) (v:Value) (Q:Nat→Prop):Option (List UInt8)→Prop
 | none=>∃c,v= .slice none 0 c
 | some l=>∃b c G d,v= .slice (some ⟨b,0,none⟩) 1 c∧1≤c∧b<w.heap.size∧Q b∧w.cell? ⟨b,0,none⟩=some (.string nmA)∧w.cell? ⟨b,1,none⟩=some (.slice G l.length d)∧l.length≤d∧Rb w G l∧∀ad,G=some ad→ad.block<w.heap.size∧Q ad.block
theorem FlR.kp {w w':World} {v:Value} {Q:Nat→Prop} {D:Option (List UInt8)} {S:Nat→Prop} (h:FlR w v Q D) (k:Kp S w w') (hS:∀g,g<w.heap.size→Q g→¬S g):FlR w' v Q D:=by
 cases D with
 | none=>exact h
 | some l=>
  obtain ⟨b,c,G,d,e,hc,hb,hq,h0,h1,hd,hr,hg⟩:=h
  exact ⟨b,c,G,d,e,hc,Nat.lt_of_lt_of_le hb k.size,hq,(k.cell (a:=⟨b,0,none⟩) hb (hS b hb hq)).trans h0,(k.cell (a:=⟨b,1,none⟩) hb (hS b hb hq)).trans h1,hd,k.rd hr (fun _ ad e=>hS _ (hg ad e).1 (hg ad e).2),fun ad e=>⟨Nat.lt_of_lt_of_le (hg ad e).1 k.size,(hg ad e).2⟩⟩
theorem FlR.imp {w:World} {v:Value} {Q Q':Nat→Prop} {D:Option (List UInt8)} (h:FlR w v Q D) (hq:∀k,k<w.heap.size→Q k→Q' k):FlR w v Q' D:=by
 cases D with
 | none=>exact h
 | some l=>
  obtain ⟨b,c,G,d,e,hc,hb,hqb,h0,h1,hd,hr,hg⟩:=h
  exact ⟨b,c,G,d,e,hc,hb,hq b hb hqb,h0,h1,hd,hr,fun ad e=>⟨(hg ad e).1,hq _ (hg ad e).1 (hg ad e).2⟩⟩
structure RsM (Y:Nat→Prop) (w:World) (X:Nat) (R:Option Nat) (room:Int) (n:Nat) (D:Option (List UInt8)):Prop where
 lX:X<w.heap.size
 x0:w.cell? ⟨X,0,none⟩=some (.int .i64 room)
 x1:∃v,w.cell? ⟨X,1,none⟩=some v∧FlR w v (fun g=>g≠X∧R≠some g∧¬Y g) D
 x2:∃y,w.cell? ⟨X,2,none⟩=some y
 x3:∃v xs,w.cell? ⟨X,3,none⟩=some v∧v.ownBlock=R∧w.ownsRow 0 120 4 v n xs
 z1:w.frozen? ⟨X,1,none⟩=false
 z2:w.frozen? ⟨X,2,none⟩=false
 z3:w.frozen? ⟨X,3,none⟩=false
 rX:R≠some X
 nY:¬Y X
 rY:∀k,R=some k→¬Y k
 yl:∀k,Y k→k<w.heap.size
def Xch (X:Nat) (R:Option Nat) (k:Nat):Prop:=k=X∨R=some k
theorem RsM.lR {w:World} {Y:Nat→Prop} {X:Nat} {R:Option Nat} {room:Int} {n:Nat} {D:Option (List UInt8)} (h:RsM Y w X R room n D):∀i,R=some i→i<w.heap.size:=fun i e=>by
 obtain ⟨v,xs,v1,v2,v3⟩:=h.x3
 exact (v3.lt i (by rw[v2];exact e)).2
theorem RsM.kp {w w':World} {Y:Nat→Prop} {X:Nat} {R:Option Nat} {room:Int} {n:Nat} {D:Option (List UInt8)} {S:Nat→Prop} (h:RsM Y w X R room n D) (k:Kp S w w') (hS:∀g,g<w.heap.size→S g→Y g):RsM Y w' X R room n D:=by
 obtain ⟨v,v1,v2⟩:=h.x1
 obtain ⟨y,hy⟩:=h.x2
 obtain ⟨u,xs,u1,u2,u3⟩:=h.x3
 have nX:¬S X:=fun e=>h.nY (hS X h.lX e)
 exact ⟨Nat.lt_of_lt_of_le h.lX k.size,(k.cell (a:=⟨X,0,none⟩) h.lX nX).trans h.x0,⟨v,(k.cell (a:=⟨X,1,none⟩) h.lX nX).trans v1,v2.kp k (fun g hg hq e=>hq.2.2 (hS g hg e))⟩,⟨y,(k.cell (a:=⟨X,2,none⟩) h.lX nX).trans hy⟩,⟨u,xs,(k.cell (a:=⟨X,3,none⟩) h.lX nX).trans u1,u2,k.own u3 (fun i hi e=>by
  rw[u2] at hi
  exact h.rY i hi (hS i (h.lR i hi) e))⟩,(k.frozen (a:=⟨X,1,none⟩) h.lX nX).trans h.z1,(k.frozen (a:=⟨X,2,none⟩) h.lX nX).trans h.z2,(k.frozen (a:=⟨X,3,none⟩) h.lX nX).trans h.z3,h.rX,h.nY,h.rY,fun i hi=>Nat.lt_of_lt_of_le (h.yl i hi) k.size⟩
theorem RsM.gr {w w':World} {Y:Nat→Prop} {X:Nat} {R:Option Nat} {room:Int} {n:Nat} {D:Option (List UInt8)} (h:RsM Y w X R room n D) (g:Gr w w'):RsM Y w' X R room n D:=
 h.kp (Kp.of_gr (fun _=>False) g) (fun _ _ h=>h.elim)
def nums (l:List UInt8):List Int:=l.map fun b=>(b.toNat:Int)
theorem nums_len (l:List UInt8):(nums l).length=l.length:=by simp[nums]
theorem nums_bytes (l:List UInt8):Lib.bytesOf (nums l)=l:=by
 unfold Lib.bytesOf nums
 rw[List.map_map]
 conv=>rhs;rw[←List.map_id l]
 apply List.map_congr_left
 intro b _
 simp
theorem nums_bys (l:List UInt8):(nums l).map (Value.int .u8)=bys l:=by
 unfold nums bys
 rw[List.map_map]
 rfl
theorem nums_at (l:List UInt8) (i:Nat) (h:i<l.length):(nums l).getD i 0=(l[i].toNat:Int):=by
 unfold nums
 rw[List.getD_eq_getElem?_getD,List.getElem?_map,List.getElem?_eq_getElem h]
 rfl
theorem Rb.nums {w:World} {A:Option Addr} {l:List UInt8} (h:Rb w A l):Lib.BytesIn w A l.length (nums l):=by
 rcases Nat.eq_zero_or_pos l.length with h0|h0
 ·
  rw[h0];exact Lib.BytesIn.nil _ _ _
 ·
  obtain ⟨ad,e,hb,hc⟩:=h.2 h0
  subst e
  exact Lib.BytesIn.of_cells fun i hi=>by rw[nums_at l i hi];exact hc i _ (bys_at l i hi)
theorem prefix_any (A B:Option Addr) (c d:Nat) (l p:List UInt8) (w:World) (hl:Rb w A l) (hp:Rb w B p) (hc:l.length≤c):Calls Tryz.prog 100 #[.slice A l.length c, .slice B p.length d] w fun e w'=>e= .returned (.bool (p.isPrefixOf l))∧w=w':=
 (Tryz.bytes_HasPrefix_all A B l.length c p.length d (nums l) (nums p) w (nums_len l) (nums_len p) hc hl.nums hp.nums).mono fun e w' h=>⟨h.1.trans (by rw[nums_bytes,nums_bytes];rfl),h.2.symm⟩
theorem clone_any (a:Addr) (c:Nat) (l:List UInt8) (hb:l.length≤140737488355328) (w:World) (hl:Rb w (some a) l):Calls Tryz.prog 79 #[.slice (some a) l.length c] w fun e w'=>∃g d,e= .returned (.slice (some ⟨g,0,none⟩) l.length d)∧l.length≤d∧w'.ownsRow w.heap.size 5 1 (.slice (some ⟨g,0,none⟩) l.length d) l.length (bys l)∧Gr w w':=by
 refine (Tryz.bytes_Clone_at a l.length c (nums l) w (nums_len l) hb fun i hi=>?_).mono ?_
 ·
  obtain ⟨ad,e, -,hc⟩:=hl.2 (by omega)
  injection e with e
  subst e
  rw[nums_at l i hi]
  exact hc i _ (bys_at l i hi)
 ·
  rintro e w' ⟨v',rfl,ho,hne,g⟩
  rw[nums_bys] at ho
  have ho':=ho
  obtain ⟨h1,⟨hv,h0⟩|⟨g',cap,cur,hv,hbs,hh,hnc,h2⟩⟩:=ho'
  ·
   exact absurd hv hne
  ·
   subst hv
   exact ⟨g',cap,rfl,hnc,ho,g⟩
section
open Go.RowKit Go.ChangeMaps Go.Maps
theorem nmA_ok:(decide (1≤nmA.size)&&decide (nmA.size≤255))=true:=by decide
theorem keyA:∃kl,keyOf Tryz.prog 9 (.string nmA)=some kl:=key_str Tryz.underlying9 nmA (by decide)
theorem keyedS:Keyed Tryz.prog 9:=string_keyed Tryz.underlying9
theorem zeroSU (w:World):(zeroValue 49).run Tryz.prog w= .ok (.slice none 0 0) w:=by
 obtain ⟨i0,hi,hz⟩:∃i0,Tryz.prog.info? 49=some i0∧i0.zero=some (.slice none 0 0):=by
  have h:(Tryz.prog.info? 49).map (·.zero)=some (some (.slice none 0 0)):=by kernel_rfl
  cases hx:Tryz.prog.info? 49 with
  | none=>rw[hx] at h;cases h
  | some i0=>rw[hx] at h;injection h with h;exact ⟨i0,rfl,h⟩
 simp[zeroValue,typeInfo,hi,hz]
theorem find_none {Y:Nat→Prop} {F P M:Nat} {R:Option Nat} {room:Int} {n:Nat} (w:World) (h:FsM Y w F P M R room n (none)):Calls Tryz.prog 78 #[.pointer (some ⟨F,0,none⟩), .string nmA] w fun e w'=>e= .returned (.tuple #[.slice none 0 0, .int .i64 5])∧w=w':=by
 have f2:=h.f2
 obtain ⟨clk,hb⟩:=h.mp
 obtain ⟨kl,hkl⟩:=keyA
 have hl:=look_none (P:=Tryz.prog) Tryz.underlying74 keyedS hkl (zeroSU w) hb true
 simp only[if_true] at hl
 clear h hb
 go_enter Tryz.func78,Tryz.ntmps78
 go_wp2_with (go_at_call 46;refine (isName_any nmA _).mono ?_;rintro e w1 ⟨rfl,rfl⟩;rw[nmA_ok])
 go_ret2
 exact ⟨rfl,rfl⟩
theorem find_some {Y:Nat→Prop} {F P M:Nat} {R:Option Nat} {room:Int} {n:Nat} {l:List UInt8} (w:World) (h:FsM Y w F P M R room n (some l)):Calls Tryz.prog 78 #[.pointer (some ⟨F,0,none⟩), .string nmA] w fun e w'=>∃A c,e= .returned (.tuple #[.slice A l.length c, .int .i64 0])∧w=w'∧l.length≤c∧Rb w A l∧Blk w (fun _=>True) A l:=by
 have f2:=h.f2
 obtain ⟨clk,born,g,c,hb,hc,hr,hg⟩:=h.mp
 have hg:=hg.imp (Q':=fun _=>True) (fun _ _ _=>trivial)
 obtain ⟨kl,hkl⟩:=keyA
 have HX:=Lib.hid (And.intro hc (And.intro hr hg))
 clear hc hr hg
 have hl:=look_one (P:=Tryz.prog) Tryz.underlying74 keyedS hkl hb true
 simp only[if_true] at hl
 clear h hb
 go_enter Tryz.func78,Tryz.ntmps78
 go_wp2_with (go_at_call 46;refine (isName_any nmA _).mono ?_;rintro e w1 ⟨rfl,rfl⟩;rw[nmA_ok])
 go_ret2
 exact ⟨g,c,rfl,rfl,HX.out⟩
theorem size_none {Y:Nat→Prop} {F P M:Nat} {R:Option Nat} {room:Int} {n:Nat} (w:World) (h:FsM Y w F P M R room n none):Calls Tryz.prog 40 #[.pointer (some ⟨F,0,none⟩), .string nmA] w fun e w'=>e= .returned (.tuple #[.int .i64 0, .int .i64 5])∧w=w':=by
 have H1:=Lib.hid (find_none w h)
 clear h
 go_enter Tryz.func40,Tryz.ntmps40
 go_wp2_with (go_at_call 78;refine H1.out.mono ?_;rintro e w1 ⟨rfl,rfl⟩)
 go_ret2
 exact ⟨rfl,rfl⟩
theorem fsize_some {Y:Nat→Prop} {F P M:Nat} {R:Option Nat} {room:Int} {n:Nat} {l:List UInt8} (w:World) (h:FsM Y w F P M R room n (some l)):Calls Tryz.prog 40 #[.pointer (some ⟨F,0,none⟩), .string nmA] w fun e w'=>e= .returned (.tuple #[.int .i64 l.length, .int .i64 0])∧w=w':=by
 have H1:=Lib.hid (find_some w h)
 clear h
 go_enter Tryz.func40,Tryz.ntmps40
 go_wp2_with (go_at_call 78;refine H1.out.mono ?_;rintro e w1 ⟨g,c,rfl,rfl, -⟩)
 go_ret2
 exact ⟨rfl,rfl⟩
theorem read_none {Y:Nat→Prop} {F P M:Nat} {R:Option Nat} {room:Int} {n:Nat} (at_ m:Int) (w:World) (h:FsM Y w F P M R room n none):Calls Tryz.prog 41 #[.pointer (some ⟨F,0,none⟩), .string nmA, .int .i64 at_, .int .i64 m] w fun e w'=>e= .returned (.tuple #[.slice none 0 0, .int .i64 5])∧w=w':=by
 have H1:=Lib.hid (find_none w h)
 clear h
 go_enter Tryz.func41,Tryz.ntmps41
 go_wp2_with (go_at_call 78;refine H1.out.mono ?_;rintro e w1 ⟨rfl,rfl⟩)
 go_ret2
 exact ⟨rfl,rfl⟩
theorem clone_gen (A:Option Addr) (c:Nat) (l:List UInt8) (hb:(l.length:Int)≤1073741824) (w:World) (hl:Rb w A l):Calls Tryz.prog 79 #[.slice A l.length c] w fun e w'=>∃A' d,e= .returned (.slice A' l.length d)∧l.length≤d∧(d:Int)≤9223372036854775807∧(0<l.length→w'.ownsRow w.heap.size 5 1 (.slice A' l.length d) l.length (bys l))∧Rb w' A' l∧Blk w' (fun g=>w.heap.size≤g) A' l∧Gr w w':=by
 cases A with
 | none=>
  have e0:l=[]:=by
   cases l with
   | nil=>rfl
   | cons x r=>obtain ⟨ad,e, -⟩:=hl.2 (by simp);cases e
  subst e0
  refine (Tryz.bytes_Clone_nil 0 c w).mono ?_
  rintro e w' ⟨rfl,rfl⟩
  exact ⟨none,0,rfl,Nat.le_refl _,by decide,fun h=>absurd h (by simp),Rb.nil _ _, .inl ⟨rfl,rfl⟩,Gr.refl _⟩
 | some a=>
  refine (clone_any a c l (by omega) w hl).mono ?_
  rintro e w' ⟨g,d,rfl,hd,ho,hg⟩
  have hlt:=ho.lt g rfl
  refine ⟨some ⟨g,0,none⟩,d,rfl,hd,?_,fun _=>ho,Rb.own ho, .inr ⟨g,rfl,hlt.2,hlt.1⟩,hg⟩
  obtain ⟨h1,⟨hv,h0⟩|⟨g',cap,cur,hv,hb,hh,h2,h3,h4,h5⟩⟩:=ho
  ·
   cases hv
  ·
   injection hv with _ _ hv3
   subst hv3
   unfold maxLen at h3
   omega

theorem read_gen {Y:Nat→Prop} {F P M:Nat} {R:Option Nat} {room:Int} {n:Nat} {l:List UInt8} (hl:(l.length:Int)≤1073741824) (w:World) (h:FsM Y w F P M R room n (some l)):Calls Tryz.prog 41 #[.pointer (some ⟨F,0,none⟩), .string nmA, .int .i64 0, .int .i64 l.length] w fun e w'=>∃A' d,e= .returned (.tuple #[.slice A' l.length d, .int .i64 0])∧l.length≤d∧(d:Int)≤9223372036854775807∧(0<l.length→w'.ownsRow w.heap.size 5 1 (.slice A' l.length d) l.length (bys l))∧Rb w' A' l∧Blk w' (fun g=>w.heap.size≤g) A' l∧Gr w w':=by
 have H1:=Lib.hid (find_some w h)
 have hz:=IntWalk.i64_in (l.length:Int) (by omega)
 have HL:=Lib.hid hl
 clear h
 go_enter Tryz.func41,Tryz.ntmps41
 go_upto_region 6 with (go_at_call 78;refine H1.out.mono ?_;rintro e w1 ⟨A,c,rfl,rfl,hc,hr,hg⟩;have hcI:(l.length:Int)≤(c:Int):=(by omega);have HR:=Lib.hid hr;have HG:=Lib.hid hg;clear hr hg)
 rcases HG.out with ⟨e1,e2⟩|⟨g,e1, -⟩
 ·
  subst e1
  have HC:Hid (∀c',Calls Tryz.prog 79 #[.slice none l.length c'] w fun e w'=>∃A' d,e= .returned (.slice A' l.length d)∧l.length≤d∧(d:Int)≤9223372036854775807∧(0<l.length→w'.ownsRow w.heap.size 5 1 (.slice A' l.length d) l.length (bys l))∧Rb w' A' l∧Blk w' (fun g=>w.heap.size≤g) A' l∧Gr w w'):=Lib.hid fun c'=>clone_gen none c' l HL.out w HR.out
  clear e2 HG
  go_wp2_with (go_at_call 79;refine (HC.out _).mono ?_;rintro e w2 ⟨A2,d2,rfl,hh⟩;have HZ:=Lib.hid hh;clear hh)
  go_ret2
  exact ⟨A2,d2,rfl,HZ.out⟩
 ·
  subst e1
  have HC:Hid (∀c',Calls Tryz.prog 79 #[.slice (some ⟨g,0,none⟩) l.length c'] w fun e w'=>∃A' d,e= .returned (.slice A' l.length d)∧l.length≤d∧(d:Int)≤9223372036854775807∧(0<l.length→w'.ownsRow w.heap.size 5 1 (.slice A' l.length d) l.length (bys l))∧Rb w' A' l∧Blk w' (fun g=>w.heap.size≤g) A' l∧Gr w w'):=Lib.hid fun c'=>clone_gen (some ⟨g,0,none⟩) c' l HL.out w HR.out
  clear HG
  go_wp2_with (go_at_call 79;refine (HC.out _).mono ?_;rintro e w2 ⟨A2,d2,rfl,hh⟩;have HZ:=Lib.hid hh;clear hh)
  go_ret2
  exact ⟨A2,d2,rfl,HZ.out⟩
theorem read_all {Y:Nat→Prop} {F P M:Nat} {R:Option Nat} {room:Int} {n:Nat} {l:List UInt8} (h0:0<l.length) (hl:(l.length:Int)≤1073741824) (w:World) (h:FsM Y w F P M R room n (some l)):Calls Tryz.prog 41 #[.pointer (some ⟨F,0,none⟩), .string nmA, .int .i64 0, .int .i64 l.length] w fun e w'=>∃g d,e= .returned (.tuple #[.slice (some ⟨g,0,none⟩) l.length d, .int .i64 0])∧l.length≤d∧w'.ownsRow w.heap.size 5 1 (.slice (some ⟨g,0,none⟩) l.length d) l.length (bys l)∧Gr w w':=by
 refine (read_gen hl w h).mono ?_
 rintro e w' ⟨A,d,rfl,hd, -,ho,hr,hb,hg⟩
 obtain ⟨g,rfl, -⟩:=hb.pos h0
 exact ⟨g,d,rfl,hd,ho h0,hg⟩
end
theorem xis_any (s:ByteArray) (w:World):Calls Tryz.prog 52 #[.string s] w fun e w'=>e= .returned (.bool (decide (1≤s.size)&&decide (s.size≤255)))∧w=w':=by
 by_cases h1:1≤s.size
 ·
  have h1i:(1:Int)≤(s.size:Int):=by omega
  by_cases h2:s.size≤255
  ·
   have h2i:(s.size:Int)≤255:=by omega
   have HD:Hid ((decide (1≤s.size)&&decide (s.size≤255))=true):=Lib.hid (by rw[decide_eq_true h1,decide_eq_true h2];rfl)
   clear h1 h2
   go_enter Tryz.func52,Tryz.ntmps52
   go_wp2
   go_ret
   exact ⟨ret_b (by rw[HD.out]),rfl⟩
  ·
   have h2i:¬(s.size:Int)≤255:=by omega
   have HD:Hid ((decide (1≤s.size)&&decide (s.size≤255))=false):=Lib.hid (by rw[decide_eq_false h2,Bool.and_false])
   clear h1 h2
   go_enter Tryz.func52,Tryz.ntmps52
   go_wp2
   go_ret
   exact ⟨ret_b (by rw[HD.out]),rfl⟩
 ·
  have h1i:¬(1:Int)≤(s.size:Int):=by omega
  have HD:Hid ((decide (1≤s.size)&&decide (s.size≤255))=false):=Lib.hid (by rw[decide_eq_false h1,Bool.false_and])
  clear h1
  go_enter Tryz.func52,Tryz.ntmps52
  go_wp2
  go_ret
  exact ⟨ret_b (by rw[HD.out]),rfl⟩
theorem xfind_none (c:Nat) (w:World):Calls Tryz.prog 53 #[.slice none 0 c, .string nmA] w fun e w'=>e= .returned (.int .i64 (-1))∧w=w':=by
 go_enter Tryz.func53,Tryz.ntmps53
 go_wp2
 go_loopw [5] (fun i wr=>i= .int .i64 0∧w=wr) (fun _ _=>0)
 case atStart=>exact ⟨rfl,rfl⟩
 case round=>
  obtain ⟨rfl,rfl⟩:=hrel
  go_wp2
  go_ret
  exact ⟨rfl,rfl⟩
theorem xfind_some (b c:Nat) (w:World) (hb:b<w.heap.size) (h0:w.cell? ⟨b,0,none⟩=some (.string nmA)):Calls Tryz.prog 53 #[.slice (some ⟨b,0,none⟩) 1 c, .string nmA] w fun e w'=>e= .returned (.int .i64 0)∧w=w':=by
 have hs:(nmA==nmA)=true:=by decide
 generalize nmA=s at *
 go_enter Tryz.func53,Tryz.ntmps53
 go_wp2
 go_loopw [5] (fun i wr=>i= .int .i64 0∧w=wr) (fun _ _=>0)
 case atStart=>exact ⟨rfl,rfl⟩
 case round=>
  obtain ⟨rfl,rfl⟩:=hrel
  go_wp2
  go_ret
  exact ⟨rfl,rfl⟩
theorem xsize_none {Y:Nat→Prop} {X:Nat} {R:Option Nat} {room:Int} {n:Nat} (w:World) (h:RsM Y w X R room n none):Calls Tryz.prog 24 #[.pointer (some ⟨X,0,none⟩), .string nmA] w fun e w'=>e= .returned (.tuple #[.int .i64 0, .int .i64 5])∧w=w':=by
 obtain ⟨v,v1,c,rfl⟩:=h.x1
 clear h
 go_enter Tryz.func24,Tryz.ntmps24
 go_wp2_with (first|(go_at_call 52;refine (xis_any nmA _).mono ?_;rintro e w1 ⟨rfl,rfl⟩;rw[nmA_ok])|(go_at_call 53;refine (xfind_none _ _).mono ?_;rintro e w2 ⟨rfl,rfl⟩))
 go_ret2
 exact ⟨rfl,rfl⟩
theorem xsize_some {Y:Nat→Prop} {X:Nat} {R:Option Nat} {room:Int} {n:Nat} {l:List UInt8} (w:World) (h:RsM Y w X R room n (some l)):Calls Tryz.prog 24 #[.pointer (some ⟨X,0,none⟩), .string nmA] w fun e w'=>e= .returned (.tuple #[.int .i64 l.length, .int .i64 0])∧w=w':=by
 have lX:=h.lX
 obtain ⟨v,v1,v2⟩:=h.x1
 obtain ⟨b,c,G,d,rfl,hc1,hb, -,h0,h1,hd,hr,hG⟩:=v2
 clear h hr hG
 go_enter Tryz.func24,Tryz.ntmps24
 go_wp2_with (first|(go_at_call 52;refine (xis_any nmA _).mono ?_;rintro e w1 ⟨rfl,rfl⟩;rw[nmA_ok])|(go_at_call 53;refine (xfind_some b c _ hb h0).mono ?_;rintro e w2 ⟨rfl,rfl⟩))
 go_ret2
 exact ⟨rfl,rfl⟩
theorem xpend_any {Y:Nat→Prop} {X:Nat} {R:Option Nat} {room:Int} {n:Nat} {D:Option (List UInt8)} (w:World) (h:RsM Y w X R room n D):Calls Tryz.prog 43 #[.pointer (some ⟨X,0,none⟩)] w fun e w'=>e= .returned (.int .i64 n)∧w=w':=by
 obtain ⟨v,xs,v1,v2,v3⟩:=h.x3
 obtain ⟨A0,cp0,hv⟩:=own_form v3
 subst hv
 clear h v2 v3
 go_enter Tryz.func43,Tryz.ntmps43
 go_wp2
 go_ret
 exact ⟨rfl,rfl⟩
theorem xused_none {Y:Nat→Prop} {X:Nat} {R:Option Nat} {room:Int} {n:Nat} (w:World) (h:RsM Y w X R room n none):Calls Tryz.prog 54 #[.pointer (some ⟨X,0,none⟩)] w fun e w'=>e= .returned (.int .i64 0)∧w=w':=by
 obtain ⟨v,v1,c,rfl⟩:=h.x1
 clear h
 go_enter Tryz.func54,Tryz.ntmps54
 go_wp2
 go_loopw [4,3] (fun i s wr=>i= .int .i64 0∧s= .int .i64 0∧w=wr) (fun _ _ _=>0)
 case atStart=>exact ⟨rfl,rfl,rfl⟩
 case round=>
  obtain ⟨rfl,rfl,rfl⟩:=hrel
  go_wp2
  go_ret
  exact ⟨rfl,rfl⟩
theorem xread_none {Y:Nat→Prop} {X:Nat} {R:Option Nat} {room:Int} {n:Nat} (at_ m:Int) (w:World) (h:RsM Y w X R room n none):Calls Tryz.prog 25 #[.pointer (some ⟨X,0,none⟩), .string nmA, .int .i64 at_, .int .i64 m] w fun e w'=>e= .returned (.tuple #[.slice none 0 0, .int .i64 5])∧w=w':=by
 obtain ⟨v,v1,c,rfl⟩:=h.x1
 clear h
 go_enter Tryz.func25,Tryz.ntmps25
 go_wp2_with (first|(go_at_call 52;refine (xis_any nmA _).mono ?_;rintro e w1 ⟨rfl,rfl⟩;rw[nmA_ok])|(go_at_call 53;refine (xfind_none _ _).mono ?_;rintro e w2 ⟨rfl,rfl⟩))
 go_ret2
 exact ⟨rfl,rfl⟩
def RetBr (l:List UInt8) (w:World) (e:Ending) (w':World):Prop:=∃A c,e= .returned (.tuple #[.slice A l.length c, .int .i64 0])∧l.length≤c∧w'.ownsRow w.heap.size 5 1 (.slice A l.length c) l.length (bys l)∧Gr w w'
theorem own_capU {w:World} {base:Nat} {e:TypeId} {size n c:Nat} {A:Option Addr} {xs:List Value} (h:w.ownsRow base e size (.slice A n c) n xs):n≤c:=by
 obtain ⟨h1,⟨hv,h0⟩|⟨g',cap,cur,hv,hb,hh,h2, -⟩⟩:=h
 ·
  injection hv with _ hn hc;omega
 ·
  injection hv with _ hn hc
  first|omega|(subst hc;first|exact h2|omega)
theorem info_u8R:(Tryz.prog.info? 5).map (fun i=>(i.zero,i.size,i.bytes))=some (some (.int .u8 0),1,1):=by kernel_rfl
theorem xread_all {Y:Nat→Prop} {X:Nat} {R:Option Nat} {room:Int} {n:Nat} {l:List UInt8} (hl:(l.length:Int)≤1073741824) (w:World) (h:RsM Y w X R room n (some l)):Calls Tryz.prog 25 #[.pointer (some ⟨X,0,none⟩), .string nmA, .int .i64 0, .int .i64 l.length] w (RetBr (l) w):=by
 obtain ⟨i0,hi0,hy0,hy1,hy2⟩:=info_parts info_u8R
 have lX:=h.lX
 obtain ⟨v,v1,v2⟩:=h.x1
 obtain ⟨b,c,G,d,rfl,hc1,hb, -,h0,h1,hd,hr,hG⟩:=v2
 have zl:IntKind.i64.wrap (l.length:Int)=(l.length:Int):=IntWalk.i64_in _ (by omega)
 have HX:=Lib.hid (And.intro hr hG)
 clear h hr hG
 go_enter Tryz.func25,Tryz.ntmps25
 go_upto_region 8 with (first|(go_at_call 52;refine (xis_any nmA _).mono ?_;rintro e w1 ⟨rfl,rfl⟩;rw[nmA_ok])|(go_at_call 53;refine (xfind_some b c _ hb h0).mono ?_;rintro e w2 ⟨rfl,rfl⟩))
 have own1:(w.alloc (.cells #[] 5)).ownsRow w.heap.size 5 1 (.slice (some ⟨w.heap.size,0,none⟩) 0 0) 0 []:=World.ownsRow_made w #[] 0 (Nat.le_refl _) (by decide) rfl
 have hrd:Rd (w.alloc (.cells #[] 5)) 1 (G) (l.length) (bys l):=(Rd.gr HX.out.1 (Gr.alloc (Gr.refl w) _))
 go_wp2_with (at_builtin;refine wpList_append_rd rfl (.tmp 59) (.tmp 72) 49 rfl w.heap.size 5 i0 _ 1 1 Tryz.underlying49 hi0 hy0 hy1 hy2 rfl (by decide) _ 0 _ rfl own1 (G) (l.length) _ (bys l) rfl hrd (bys_one _) (by unfold maxLen;omega) (by omega) (by simp) ?_;intro v9 w9 own9 hgr9 hob9;obtain ⟨A9,c9,hv9⟩:=own_form own9;subst hv9;rw[Nat.zero_add,List.nil_append] at own9;have H9:=Lib.hid (And.intro own9 hgr9);clear own9 hgr9 hob9)
 go_ret2
 obtain ⟨own9,hgr9⟩:=H9.out
 refine ⟨A9,c9,rfl,by first|exact own_capU own9|simpa using own_capU own9,by first|exact own9|simpa using own9,(Gr.alloc (Gr.refl w) _).grown hgr9 (fun k e=>by have e2:some w.heap.size=some k:=e;injection e2 with e2;omega)⟩
theorem rd_part {w:World} {l:List UInt8} {ad:Addr} {at_ k:Nat} (h1:(bys l).length=l.length*1) (hb:ad.block<w.heap.size) (hc:∀j u,(bys l)[j]?=some u→w.cell? (ad.add j)=some u) (hk:0<k) (hle:at_+k≤l.length):Rd w 1 (some (ad.add at_)) k (bys ((l.drop at_).take k)):=by
 have e:((l.drop at_).take k).length=k:=by rw[List.length_take,List.length_drop];omega
 refine ⟨by rw[bys_length,e],fun _=>⟨_,rfl,by rw[add_blk];exact hb,fun j u hu=>?_⟩⟩
 rw[add_two]
 have hj:j<k:=by
  have:=(List.getElem?_eq_some_iff.1 hu).1
  rw[bys_length,e] at this
  omega
 refine hc (at_+j) u ?_
 rw[←hu]
 simp only[bys,List.getElem?_map,List.getElem?_take,List.getElem?_drop]
 rw[if_pos hj]
theorem xread_part {Y:Nat→Prop} {X:Nat} {R:Option Nat} {room:Int} {n:Nat} {l:List UInt8} (hl:(l.length:Int)≤1073741824) (at_ k:Nat) (hk:0<k) (hle:at_+k≤l.length) (w:World) (h:RsM Y w X R room n (some l)):Calls Tryz.prog 25 #[.pointer (some ⟨X,0,none⟩), .string nmA, .int .i64 (at_:Nat), .int .i64 (k:Nat)] w (RetBr ((l.drop at_).take k) w):=by
 obtain ⟨i0,hi0,hy0,hy1,hy2⟩:=info_parts info_u8R
 have lX:=h.lX
 obtain ⟨v,v1,v2⟩:=h.x1
 obtain ⟨b,c,G,d,rfl,hc1,hb, -,h0,h1,hd,hr,hG⟩:=v2
 obtain ⟨ad,rfl,hab,hac⟩:=hr.2 (by omega)
 have HR2:Hid (Rd w 1 (some (ad.add at_)) k (bys ((l.drop at_).take k))):=Lib.hid (rd_part hr.1 hab hac hk hle)
 have za:¬(at_:Int)<0:=by omega
 have zb:¬(k:Int)<0:=by omega
 have zc:¬(l.length:Int)<(at_:Int):=by omega
 have zd:IntKind.i64.wrap ((l.length:Int)-(at_:Int))=(l.length:Int)-(at_:Int):=IntWalk.i64_in _ (by omega)
 have ze:¬(l.length:Int)-(at_:Int)<(k:Int):=by omega
 have zf:IntKind.i64.wrap ((at_:Int)+(k:Int))=((at_+k:Nat):Int):=by rw[Int.natCast_add];exact IntWalk.i64_in _ (by omega)
 have zg:(at_:Int)≤((at_+k:Nat):Int):=by omega
 have zh:((at_+k:Nat):Int)≤(d:Int):=by omega
 have zi:at_<d:=by omega
 have zj:at_+k-at_=k:=by omega
 have hki:(k:Int)≤1073741824:=by omega
 have zk:at_≤l.length:=by omega
 clear h hr hG hac
 go_enter Tryz.func25,Tryz.ntmps25
 go_upto_region 8 with (first|(go_at_call 52;refine (xis_any nmA _).mono ?_;rintro e w1 ⟨rfl,rfl⟩;rw[nmA_ok])|(go_at_call 53;refine (xfind_some b c _ hb h0).mono ?_;rintro e w2 ⟨rfl,rfl⟩))
 have own1:(w.alloc (.cells #[] 5)).ownsRow w.heap.size 5 1 (.slice (some ⟨w.heap.size,0,none⟩) 0 0) 0 []:=World.ownsRow_made w #[] 0 (Nat.le_refl _) (by decide) rfl
 have hrd:Rd (w.alloc (.cells #[] 5)) 1 (some (ad.add at_)) (at_+k-at_) (bys ((l.drop at_).take k)):=by rw[zj];exact (Rd.gr HR2.out (Gr.alloc (Gr.refl w) _))
 go_wp2_with (at_builtin;refine wpList_append_rd rfl (.tmp 59) (.tmp 72) 49 rfl w.heap.size 5 i0 _ 1 1 Tryz.underlying49 hi0 hy0 hy1 hy2 rfl (by decide) _ 0 _ rfl own1 (some (ad.add at_)) (at_+k-at_) _ (bys ((l.drop at_).take k)) rfl hrd (bys_one _) (by unfold maxLen;omega) (by omega) (by simp) ?_;intro v9 w9 own9 hgr9 hob9;obtain ⟨A9,c9,hv9⟩:=own_form own9;subst hv9;rw[Nat.zero_add,zj,List.nil_append] at own9;have H9:=Lib.hid (And.intro own9 hgr9);clear own9 hgr9 hob9)
 go_ret2
 obtain ⟨own9,hgr9⟩:=H9.out
 have EL:((l.drop at_).take k).length=k:=by rw[List.length_take,List.length_drop];omega
 unfold RetBr
 rw[EL]
 refine ⟨A9,c9,rfl,by first|exact own_capU own9|simpa using own_capU own9,by first|exact own9|simpa using own9,(Gr.alloc (Gr.refl w) _).grown hgr9 (fun k e=>by have e2:some w.heap.size=some k:=e;injection e2 with e2;omega)⟩
theorem RsM.sync {Y:Nat→Prop} {X:Nat} {R:Option Nat} {room:Int} {n:Nat} {D:Option (List UInt8)} {w:World} (h:RsM Y w X R room n D) {v:Value} (hv:w.cell? ⟨X,1,none⟩=some v):RsM Y ((w.setCell ⟨X,2,none⟩ v).setCell ⟨X,3,none⟩ (.slice none 0 0)) X none room 0 D∧Kp (fun k=>k=X) w ((w.setCell ⟨X,2,none⟩ v).setCell ⟨X,3,none⟩ (.slice none 0 0)):=by
 have k:Kp (fun k=>k=X) w ((w.setCell ⟨X,2,none⟩ v).setCell ⟨X,3,none⟩ (.slice none 0 0)):=((Kp.refl (fun k=>k=X) w).set (p:=⟨X,2,none⟩) (.inl rfl) v).set (p:=⟨X,3,none⟩) (.inl rfl) _
 obtain ⟨v',v1,v2⟩:=h.x1
 obtain ⟨y,hy⟩:=h.x2
 obtain ⟨u,xs,u1,u2,u3⟩:=h.x3
 rw[hv] at v1
 injection v1 with v1
 subst v1
 have e:∀o,o≠2→o≠3→((w.setCell ⟨X,2,none⟩ v).setCell ⟨X,3,none⟩ (.slice none 0 0)).cell? ⟨X,o,none⟩=w.cell? ⟨X,o,none⟩:=fun o h2 h3=>(World.cell?_setCell_other _ ⟨X,3,none⟩ ⟨X,o,none⟩ _ (by first|(simp[h3];done)|(simp;omega))).trans (World.cell?_setCell_other _ ⟨X,2,none⟩ ⟨X,o,none⟩ _ (by first|(simp[h2];done)|(simp;omega)))
 refine ⟨⟨Nat.lt_of_lt_of_le h.lX k.size,(e 0 (by decide) (by decide)).trans h.x0,⟨v,(e 1 (by decide) (by decide)).trans hv,?_⟩,⟨v,?_⟩,⟨.slice none 0 0,[],?_,rfl,World.ownsRow_nil _ _ _ _⟩,?_,?_,?_,(fun e=>by cases e),h.nY,(fun _ e=>by cases e),fun i hi=>Nat.lt_of_lt_of_le (h.yl i hi) k.size⟩,k⟩
 ·
  exact (v2.kp k (fun g _ hq e=>hq.1 e)).imp (fun g _ hq=>⟨hq.1,(fun e=>by cases e),hq.2.2⟩)
 ·
  exact (World.cell?_setCell_other _ ⟨X,3,none⟩ ⟨X,2,none⟩ _ (by first|(simp;done)|(simp;omega))).trans (World.cell?_setCell_same' _ _ _ (by rw[hy];rfl))
 ·
  exact World.cell?_setCell_same' _ _ _ (by rw[World.cell?_setCell_other _ ⟨X,2,none⟩ ⟨X,3,none⟩ _ (by first|(simp;done)|(simp;omega)),u1];rfl)
 ·
  rw[World.frozen?_setCell,World.frozen?_setCell];exact h.z1
 ·
  rw[World.frozen?_setCell,World.frozen?_setCell];exact h.z2
 ·
  rw[World.frozen?_setCell,World.frozen?_setCell];exact h.z3
theorem xsync_any {Y:Nat→Prop} {X:Nat} {R:Option Nat} {room:Int} {n:Nat} {D:Option (List UInt8)} (w:World) (h:RsM Y w X R room n D):Calls Tryz.prog 35 #[.pointer (some ⟨X,0,none⟩)] w fun e w'=>e= .returned (.tuple #[])∧RsM Y w' X none room 0 D∧Kp (fun k=>k=X) w w':=by
 obtain ⟨v,v1,v2⟩:=h.x1
 obtain ⟨y,hy⟩:=h.x2
 obtain ⟨u,xs,u1,u2,u3⟩:=h.x3
 have z2:=h.z2
 have z3:=h.z3
 have HS:=Lib.hid (h.sync v1)
 have hA:∃A0 n0 c0,v= .slice A0 n0 c0:=by
  cases D with
  | none=>obtain ⟨c,e⟩:=v2;exact ⟨_,_,_,e⟩
  | some l=>obtain ⟨b,c,G,d,e, -⟩:=v2;exact ⟨_,_,_,e⟩
 obtain ⟨A0,n0,c0,rfl⟩:=hA
 clear h v2 u2 u3
 go_enter Tryz.func35,Tryz.ntmps35
 go_wp2
 go_end0
 exact ⟨rfl,HS.out⟩
theorem RsM.new (Y:Nat→Prop) (room:Int) (w:World) (hY:∀k,Y k→k<w.heap.size):RsM Y (w.alloc (.cells #[.int .i64 room, .slice none 0 0, .slice none 0 0, .slice none 0 0] 83)) w.heap.size none room 0 none:=by
 refine ⟨by simp,by go_simp,⟨.slice none 0 0,by go_simp,0,rfl⟩,⟨.slice none 0 0,by go_simp⟩,⟨.slice none 0 0,[],by go_simp,rfl,World.ownsRow_nil _ _ _ _⟩,by go_simp,by go_simp,by go_simp,(fun e=>by cases e),fun e=>by have:=hY _ e;omega,(fun _ e=>by cases e),fun k hk=>by have:=hY k hk;simp;omega⟩
theorem xnew_any (room:Int) (h0:0≤room) (h1:room≤1073741824) (w:World):Calls Tryz.prog 10 #[.int .i64 room] w fun e w'=>e= .returned (.tuple #[.pointer (some ⟨w.heap.size,0,none⟩), .int .i64 0])∧w'=w.alloc (.cells #[.int .i64 room, .slice none 0 0, .slice none 0 0, .slice none 0 0] 83):=by
 have q0:¬room<0:=by omega
 have q1:¬1073741824<room:=by omega
 go_enter Tryz.func10,Tryz.ntmps10
 go_wp2
 go_ret2
 exact ⟨rfl,rfl⟩
theorem flat_take (ls:List (List UInt8)) (k:Nat) (h:k<ls.length):(ls.take (k+1)).flatten=(ls.take k).flatten++ls[k]:=by
 rw[List.take_succ_eq_append_getElem h,List.flatten_append]
 simp
theorem flat_len (ls:List (List UInt8)) (k:Nat):(ls.take k).flatten.length≤ls.flatten.length:=by
 conv=>rhs;rw[←List.take_append_drop k ls,List.flatten_append,List.length_append]
 omega
theorem xrows_any (b o n c:Nat) (ls:List (List UInt8)) (hn:ls.length=n) (hn9:n≤1000) (hs:(ls.flatten.length:Int)≤1073741824) (w:World) (hc:∀k (h:k<ls.length),∃A d,w.cell? ⟨b,o+k,none⟩=some (.slice A ls[k].length d)∧Rb w A ls[k]) (hb:0<n→b<w.heap.size) :
  Calls Tryz.prog 51 #[.slice (some ⟨b,o,none⟩) n c] w fun e w'=>∃A d,e= .returned (.slice A ls.flatten.length d)∧ls.flatten.length≤d∧w'.ownsRow w.heap.size 5 1 (.slice A ls.flatten.length d) ls.flatten.length (bys ls.flatten)∧Gr w w':=by
 obtain ⟨i0,hi0,hy0,hy1,hy2⟩:=info_parts info_u8R
 have hni:(n:Int)≤1000:=by omega
 have HH:=Lib.hid (And.intro hc (And.intro hs hn))
 clear hc hs hn hn9
 go_enter Tryz.func51,Tryz.ntmps51
 have own1:(w.alloc (.cells #[] 5)).ownsRow w.heap.size 5 1 (.slice (some ⟨w.heap.size,0,none⟩) 0 0) 0 []:=World.ownsRow_made w #[] 0 (Nat.le_refl _) (by decide) rfl
 have H1:=Lib.hid own1
 clear own1
 go_wp2
 go_loopw [3,4] (fun v i wr=>∃k:Nat,k≤n∧i= .int .i64 k∧Gr w wr∧wr.ownsRow w.heap.size 5 1 v (ls.take k).flatten.length (bys (ls.take k).flatten)) (fun _ i _=>n-(intOf i).toNat)
 case atStart=>exact ⟨0,Nat.zero_le _,rfl,Gr.alloc (Gr.refl w) _,H1.out⟩
 case round=>
  obtain ⟨k,hk,rfl,hgr,hown⟩:=hrel
  by_cases hlt:k<n
  ·
   have hlti:(k:Int)<(n:Int):=by omega
   have hkl:k<ls.length:=by rw[HH.out.2.2];exact hlt
   obtain ⟨A,d,cs0,hra0⟩:=HH.out.1 k hkl
   have hbw:=hb (by omega)
   have cs:=(Below.cell hgr (p:=⟨b,o+k,none⟩) hbw).trans cs0
   have hra:=hra0.gr hgr
   have hft:=flat_take ls k hkl
   have hfl:=flat_len ls (k+1)
   rw[hft] at hfl
   have hs2:=HH.out.2.1
   obtain ⟨x,hx⟩:∃x,x=ls[k]:=⟨_,rfl⟩
   obtain ⟨T,hT⟩:∃T,T=(ls.take k).flatten:=⟨_,rfl⟩
   rw[←hx] at cs hra hft hfl
   rw[←hT] at hown hft hfl
   have hlen:(T.length:Int)+(x.length:Int)≤1073741824:=by rw[List.length_append] at hfl;omega
   have hra':Rd wr 1 A x.length (bys x):=hra
   have HG:=Lib.hid hgr
   have HFT:=Lib.hid hft
   have hszz:=hgr.size
   clear hx hT cs0 hra0 hra hgr hft hfl hs2 hbw
   go_wp2_with (at_builtin;refine wpList_append_rd rfl (.tmp 12) (.tmp 16) 49 rfl w.heap.size 5 i0 _ 1 1 Tryz.underlying49 hi0 hy0 hy1 hy2 rfl (by decide) _ T.length _ rfl hown A x.length _ (bys x) rfl hra' (bys_one _) (by unfold maxLen;omega) (by omega) (by omega) ?_;intro v9 w9 own9 hgr9 hob9;have H9:=Lib.hid (And.intro own9 (And.intro hgr9 hown));clear own9 hgr9 hob9 hown)
   go_roundw
   case rel=>
    obtain ⟨own9,hgr9,hown⟩:=H9.out
    refine ⟨k+1,by omega,by go_num,HG.out.grown hgr9 (fun i e=>(hown.lt i e).1),?_⟩
    rw[HFT.out,List.length_append,bys_append]
    exact own9
   case measure=>simp[intOf];omega
  ·
   have hkk:k=n:=by omega
   subst hkk
   rw[List.take_of_length_le (by rw[HH.out.2.2];exact Nat.le_refl _)] at hown
   obtain ⟨A9,c9,hv9⟩:=own_form hown
   subst hv9
   have H9:=Lib.hid (And.intro hown hgr)
   clear hown hgr
   go_wp2
   go_ret
   exact ⟨A9,c9,rfl,own_capU H9.out.1,H9.out⟩
open Go
section
variable {P:Program} {ops:Array Oper} {Q:Exit→Act→World→Prop} {md:Region.Mode} {S:World→Prop} {z:Nat}
def wpAnyZ (P:Program) (md:Region.Mode) (ops:Array Oper) (Q:Exit→Act→World→Prop) (S:World→Prop) (z:Nat):Nat→Array Bool→Act→World→Prop
 | 0,listed,a,w=>Region.ready md ops listed=[]∧Q .normal a w
 | fuel+1,listed,a,w=>
  (Region.ready md ops listed=[]→Q .normal a w)∧
  ∀i∈Region.ready md ops listed,wpOp P ops Q i (fun a' w'=>(i≠z→S w')∧wpAnyZ P md ops Q S z fuel (listed.setIfInBounds i true) a' w') a w
theorem wpAny_of_Z:∀(fuel:Nat) (listed:Array Bool) (a:Act) (w:World),wpAnyZ P md ops Q S z fuel listed a w→wpAny P md ops Q fuel listed a w
 | 0,_,_,_,h=>h
 | fuel+1,_,_,_,h=>⟨h.1,fun i hi=>wpOp_mono (fun a' w' h'=>wpAny_of_Z fuel _ a' w' h'.2) (h.2 i hi)⟩
def lastB (md:Region.Mode) (ops:Array Oper) (z:Nat):Bool:=decide (z<ops.size)&&decide (ops.size≤z+1)&&Region.sinkB md ops z&&Region.chainB md ops z
def closedB (md:Region.Mode) (ops:Array Oper) (z:Nat) (listed:Array Bool):Bool:=
 decide (listed.size=ops.size)&&((List.range ops.size).all fun j=> !listed.getD j false||((ops[j]?).map (·.after.all fun e=> !Region.binds md e||listed.getD e.on false)).getD true)&&(List.range ops.size).all fun t=>decide (t<z) || !listed.getD t true
theorem closed_inv {listed:Array Bool} (h:closedB md ops z listed=true):HeadInv md ops z listed:=by
 unfold closedB at h
 simp only[Bool.and_eq_true,decide_eq_true_eq] at h
 obtain ⟨⟨h0,h1⟩,h2⟩:=h
 refine ⟨h0,fun j oj hj hl e he hb=>?_,fun t ht ht'=>?_⟩
 ·
  have h3:=List.all_eq_true.1 h1 j (List.mem_range.2 (Array.getElem?_eq_some_iff.1 hj).1)
  rw[hl,hj] at h3
  simp only[Bool.not_true,Bool.false_or,Option.map_some,Option.getD_some] at h3
  have h4:=Array.all_eq_true'.1 h3 e he
  rw[hb] at h4
  simpa using h4
 ·
  have h3:=List.all_eq_true.1 h2 t (List.mem_range.2 ht')
  simp only[Bool.or_eq_true,decide_eq_true_eq,Bool.not_eq_true'] at h3
  rcases h3 with h3|h3
  ·
   omega
  ·
   exact h3
theorem wpAnyZ_first {i:Nat} {oi:Oper} {v:Value} (hi:ops[i]?=some oi) (hiz:i<z) (hsel:∀(j:Nat) (o:Oper) cs b,ops[j]?=some o→o.op ≠ .select cs b)
  (hlast:lastB md ops z=true) (hQ:∀c a w,Q (.panic c) (a.put oi.dst v) w→Q (.panic c) a w) :
  ∀(fuel:Nat) (listed:Array Bool) (a:Act) (w:World),HeadInv md ops z listed→
   (∀j oj,ops[j]?=some oj→j≠i→listed.getD j true=false→(∀e∈oj.after,Region.binds md e=true→e.on≠i)→oi.apart ops oj=true)→
   i∈Region.ready md ops listed→YieldsIf P ops S oi v a→S w→
   wpAnyZ P md ops Q S z fuel (listed.setIfInBounds i true) (a.put oi.dst v) w→wpAnyZ P md ops Q S z (fuel+1) listed a w:=by
 have hl:=hlast
 unfold lastB at hl
 simp only[Bool.and_eq_true,decide_eq_true_eq] at hl
 obtain ⟨⟨⟨hzs,hze⟩,hsink⟩,hchain⟩:=hl
 intro fuel
 induction fuel with
 | zero=>
  intro listed a w _ _ hr hy hS H
  refine ⟨fun h=>(by rw[h] at hr;cases hr),fun j hj=>?_⟩
  by_cases hji:j=i
  ·
   subst hji;exact hy.wpOp hi hS ⟨fun _=>hS,H⟩
  ·
   have:=ready_mono hj hji
   rw[H.1] at this
   cases this
 | succ fuel ih=>
  intro listed a w inv hfree hr hy hS H
  refine ⟨fun h=>(by rw[h] at hr;cases hr),fun j hj=>?_⟩
  by_cases hji:j=i
  ·
   subst hji;exact hy.wpOp hi hS ⟨fun _=>hS,H⟩
  ·
   have h1:=H.2 j (ready_mono hj hji)
   obtain ⟨hjun,oj,hoj,hall⟩:=mem_ready.1 hj
   have hiun:=(mem_ready.1 hr).1
   have hjz:j<z:=by
    rcases Nat.lt_or_ge j z with h|h
    ·
     exact h
    ·
     exact absurd hj (tail_waits hsink hchain hzs inv _ i rfl hiz hiun j h)
   have hnot:∀e∈oj.after,Region.binds md e=true→e.on≠i:=fun e he hb heq=>by
    have h1:=hall e he hb
    rw[heq,getD_both hiun] at h1
    cases h1
   have h2:=wpOp_putIf hoj (hfree j oj hoj hji hjun hnot) (fun cs b=>hsel i oi cs b hi) (fun cs b=>hsel j oj cs b hoj) hQ hy h1
   have hfree':∀k ok,ops[k]?=some ok→k≠i→(listed.setIfInBounds j true).getD k true=false→
     (∀e∈ok.after,Region.binds md e=true→e.on≠i)→oi.apart ops ok=true:=fun k ok hk hki hun hno=>by
    refine hfree k ok hk hki ?_ hno
    by_cases hjk:j=k
    ·
     subst hjk;exact hjun
    ·
     rw[getD_set_ne true hjk] at hun;exact hun
   refine wpOp_mono (fun a' w' h3=>⟨h3.2.1,ih (listed.setIfInBounds j true) a' w' (inv.set hj hjz) hfree' (ready_mono hr (Ne.symm hji)) h3.1 (h3.2.1 (by omega)) ?_⟩) h2
   rw[Array.setIfInBounds_comm _ _ hji]
   exact h3.2.2
theorem wpAnyZ_take {i:Nat} {oi:Oper} {v:Value} {fuel:Nat} {listed:Array Bool} {a:Act} {w:World} (hi:ops[i]?=some oi) (hlast:(decide (i<z)&&lastB md ops z&&closedB md ops z listed&&Region.noSelect ops&&Region.free md ops listed i&&(Region.ready md ops listed).contains i)=true)
  (hQ:∀c a w,Q (.panic c) (a.put oi.dst v) w→Q (.panic c) a w) (hw:Region.wanted oi (yielded ops a.tmps)=true) (hy:∀w,S w→(execOp a.eval oi).run P w= .ok (.value v) w) (hS:S w)
  (h:wpAnyZ P md ops Q S z fuel (listed.setIfInBounds i true) (a.put oi.dst v) w):wpAnyZ P md ops Q S z (fuel+1) listed a w:=by
 simp only[Bool.and_eq_true,decide_eq_true_eq] at hlast
 obtain ⟨⟨⟨⟨⟨h0,h1⟩,h2⟩,h3⟩,h4⟩,h5⟩:=hlast
 exact wpAnyZ_first hi h0 (Region.noSelect_spec h3) h1 hQ fuel listed a w (closed_inv h2) (Region.free_spec hi h4) (by simpa using h5) (Or.inl ⟨hw,hy⟩) hS h
def AllReadyZ (P:Program) (md:Region.Mode) (ops:Array Oper) (Q:Exit→Act→World→Prop) (S:World→Prop) (z fuel:Nat) (listed:Array Bool) (a:Act) (w:World) (rs:List Nat):Prop:=
 ∀i∈rs,wpOp P ops Q i (fun a' w'=>(i≠z→S w')∧wpAnyZ P md ops Q S z fuel (listed.setIfInBounds i true) a' w') a w
theorem AllReadyZ.nil {fuel:Nat} {listed:Array Bool} {a:Act} {w:World}:AllReadyZ P md ops Q S z fuel listed a w []:=fun _ h=>by cases h
theorem AllReadyZ.cons {fuel:Nat} {listed:Array Bool} {a:Act} {w:World} {i:Nat} {o:Oper} {rs:List Nat} (ho:ops[i]?=some o) (hw:Region.wanted o (yielded ops a.tmps)=true)
  (h:∀K':Act→World→Prop,Shut (∀a w,(i≠z→S w)→((i≠z→S w)→wpAnyZ P md ops Q S z fuel (listed.setIfInBounds i true) a w)→K' a w)→Oper.wp P o a w K' Q)
  (hs:AllReadyZ P md ops Q S z fuel listed a w rs):AllReadyZ P md ops Q S z fuel listed a w (i::rs):=fun j hj=>by
 rcases List.mem_cons.1 hj with rfl|hj
 ·
  exact wpOp_step ho (fun K' hK=>by rw[if_pos hw];exact h K' (fun a w hS hW=>hK a w ⟨hS,hW hS⟩))
 ·
  exact hs j hj
theorem wpAnyZ_ready {rs:List Nat} {fuel:Nat} {listed:Array Bool} {a:Act} {w:World} (hr:Region.ready md ops listed=rs) (hne:rs≠[])
  (h:AllReadyZ P md ops Q S z fuel listed a w rs):wpAnyZ P md ops Q S z (fuel+1) listed a w:=
 ⟨fun h0=>absurd (hr▸h0) hne,hr▸h⟩
theorem zu {oi:Oper} {v:Value} {fuel:Nat} {listed listed':Array Bool} {a a':Act} {w:World} (i:Nat) (hi:ops[i]?=some oi) (hS:S w) (hy:∀w,S w→(execOp a.eval oi).run P w= .ok (.value v) w) (h:wpAnyZ P md ops Q S z fuel listed' a' w) (hlast:(decide (i<z)&&lastB md ops z&&closedB md ops z listed&&Region.noSelect ops&&Region.free md ops listed i&&(Region.ready md ops listed).contains i)=true:=by kernel_rfl) (hQ:∀c a w,Q (.panic c) (a.put oi.dst v) w→Q (.panic c) a w:=by exact fun _ _ _ h=>h) (hw:Region.wanted oi (yielded ops a.tmps)=true:=by rfl) (ha:a.put oi.dst v=a':=by first|(simp only[Act.put,List.getElem_toArray,List.getElem_cons_succ,List.getElem_cons_zero,List.setIfInBounds_toArray,List.set_cons_zero,List.set_cons_succ];done)|(simp only[Act.put,List.getElem_toArray,List.getElem_cons_succ,List.getElem_cons_zero,List.setIfInBounds_toArray,List.set_cons_zero,List.set_cons_succ];rfl)|rfl) (hl:listed.setIfInBounds i true=listed':=by first|(simp only[Act.put,List.getElem_toArray,List.getElem_cons_succ,List.getElem_cons_zero,List.setIfInBounds_toArray,List.set_cons_zero,List.set_cons_succ];done)|(simp only[Act.put,List.getElem_toArray,List.getElem_cons_succ,List.getElem_cons_zero,List.setIfInBounds_toArray,List.set_cons_zero,List.set_cons_succ];rfl)|rfl):wpAnyZ P md ops Q S z (fuel+1) listed a w:=by
 subst ha hl
 exact wpAnyZ_take hi hlast hQ hw hy hS h
theorem zs {fuel:Nat} {listed:Array Bool} {a:Act} {w:World} {o:Oper} (i:Nat) (ho:ops[i]?=some o) (h:∀K':Act→World→Prop,Shut (∀a w,(i≠z→S w)→((i≠z→S w)→wpAnyZ P md ops Q S z fuel (listed.setIfInBounds i true) a w)→K' a w)→Oper.wp P o a w K' Q) (hr:Region.ready md ops listed=[i]:=by kernel_rfl) (hw:Region.wanted o (yielded ops a.tmps)=true:=by rfl):wpAnyZ P md ops Q S z (fuel+1) listed a w:=wpAnyZ_ready hr (by simp) (AllReadyZ.cons ho hw h AllReadyZ.nil)
theorem wpAnyZ_done {listed:Array Bool} {a:Act} {w:World} (hr:Region.ready md ops listed=[]) (h:Q .normal a w):∀fuel,wpAnyZ P md ops Q S z fuel listed a w
 | 0=>⟨hr,h⟩
 | _+1=>⟨fun _=>h,by rw[hr];simp⟩
theorem wp_region_Z (z:Nat) (S:World→Prop) {id:Nat} {a:Act} {w:World} (hm:P.follows .mixedOrders=true)
  (h:wpAnyZ P .any ops Q S z ops.size (Array.replicate ops.size false) a w.drew):(Code.region id ops true).wp P Q a w:=
 wp_region_any hm (wpAny_of_Z _ _ _ _ h)
end
section
open Go.RowKit Go.ChangeMaps Go.Maps
theorem Kp.blk {S:Nat→Prop} {w w':World} {M:Nat} {o':Obj} (h:Kp S w w') (hb:w'.heap[M]?=some o') (hM:S M∨w.heap.size≤M) (o:Obj):Kp S w (setBlock w' M o):=
 ⟨h.os,h.tape,h.output,Nat.le_trans h.size (by simp[setBlock]),fun k hk hn=>(show (setBlock w' M o).heap[k]?=w'.heap[k]? from by
  unfold setBlock
  rw[Array.getElem?_setIfInBounds_ne (fun e=>by
   rcases hM with h1|h1
   ·
    exact hn (e▸h1)
   ·
    omega)]).trans (h.block k hk hn)⟩
theorem FsM.updB {w:World} {Y:Nat→Prop} {F P M:Nat} {R:Option Nat} {room:Int} {n:Nat} {D:Option (List UInt8)} (h:FsM Y w F P M R room n D) {l:List UInt8} {A:Option Addr} {c:Nat} (hc:l.length≤c) (hr:Rb w A l) (hq:Blk w (fun g=>g≠P∧g≠M∧R≠some g∧¬Y g) A l) (clk born:Nat) :
  FsM Y (setBlock w M (.map #[⟨.string nmA, .slice A l.length c,born⟩] clk)) F P M R room n (some l)∧Kp (fun k=>k=M) w (setBlock w M (.map #[⟨.string nmA, .slice A l.length c,born⟩] clk)):=by
 obtain ⟨o',hb⟩:∃o',w.heap[M]?=some o':=⟨_,Array.getElem?_eq_getElem h.lm⟩
 have k:Kp (fun k=>k=M) w (setBlock w M (.map #[⟨.string nmA, .slice A l.length c,born⟩] clk)):=(Kp.refl (fun k=>k=M) _).blk hb (.inl (show M=M from rfl)) _
 obtain ⟨v,xs,v1,v2,v3⟩:=h.p0
 obtain ⟨y,hy⟩:=h.p1
 refine ⟨⟨Nat.lt_of_lt_of_le h.lf k.size,Nat.lt_of_lt_of_le h.lp k.size,Nat.lt_of_lt_of_le h.lm k.size,h.nfp,h.nfm,h.npm,(k.cell (a:=⟨F,0,none⟩) h.lf h.nfm).trans h.f0,(k.cell (a:=⟨F,1,none⟩) h.lf h.nfm).trans h.f1,(k.cell (a:=⟨F,2,none⟩) h.lf h.nfm).trans h.f2,
  ⟨v,xs,(k.cell (a:=⟨P,0,none⟩) h.lp h.npm).trans v1,v2,k.own v3 (fun i hi=>(h.rr i (by rw[←v2];exact hi)).2.2)⟩,⟨y,(k.cell (a:=⟨P,1,none⟩) h.lp h.npm).trans hy⟩,(k.frozen (a:=⟨P,0,none⟩) h.lp h.npm).trans h.z0,(k.frozen (a:=⟨P,1,none⟩) h.lp h.npm).trans h.z1,h.rr,fun i hi=>Nat.lt_of_lt_of_le (h.yl i hi) k.size,?_⟩,k⟩
 have hk2:=hq.kp k (fun g _ hq e=>hq.2.1 e) hr
 refine ⟨clk,born,A,c,?_,hc,hk2.1,hk2.2⟩
 unfold setBlock
 rw[Array.getElem?_setIfInBounds_self_of_lt h.lm]
theorem FsM.upd {w:World} {Y:Nat→Prop} {F P M:Nat} {R:Option Nat} {room:Int} {n:Nat} {D:Option (List UInt8)} (h:FsM Y w F P M R room n D) {l:List UInt8} {g c:Nat} (hc:l.length≤c) (hr:Rb w (some ⟨g,0,none⟩) l) (hg:g<w.heap.size) (hq:g≠P∧g≠M∧R≠some g∧¬Y g) (clk born:Nat) :
  FsM Y (setBlock w M (.map #[⟨.string nmA, .slice (some ⟨g,0,none⟩) l.length c,born⟩] clk)) F P M R room n (some l)∧Kp (fun k=>k=M) w (setBlock w M (.map #[⟨.string nmA, .slice (some ⟨g,0,none⟩) l.length c,born⟩] clk)):=
 h.updB hc hr (.inr ⟨g,rfl,hg,hq⟩) clk born
theorem applies_create {Y:Nat→Prop} {F P M:Nat} {R:Option Nat} {room:Int} {n:Nat} (l:List UInt8) (gd:Option Addr) (d:Nat) (hl:(l.length:Int)≤1073741824) (w:World) (h:FsM Y w F P M R room n none) (hd:Rb w gd l) :
  Calls Tryz.prog 83 #[.pointer (some ⟨F,0,none⟩), .agg #[.int .i64 0, .string nmA, .int .i64 0, .slice gd l.length d]] w fun e w'=>e= .returned (.tuple #[])∧FsM Y w' F P M R room n (some l)∧Kp (fun k=>k=M) w w':=by
 obtain ⟨V,hV⟩:∃V,V=w.alloc (.cells #[.int .i64 0, .string nmA, .int .i64 0, .slice gd l.length d] 115):=⟨_,rfl⟩
 have gV:Gr w V:=by rw[hV];exact Gr.alloc (Gr.refl w) _
 have hz:w.heap.size<V.heap.size:=by rw[hV];simp
 have c0:V.cell? ⟨w.heap.size,0,none⟩=some (.int .i64 0):=by rw[hV];go_simp
 have c1:V.cell? ⟨w.heap.size,1,none⟩=some (.string nmA):=by rw[hV];go_simp
 have c3:V.cell? ⟨w.heap.size,3,none⟩=some (.slice gd l.length d):=by rw[hV];go_simp
 have hF:=h.gr gV
 have f2:=hF.f2
 have lfV:=hF.lf
 have HF:=Lib.hid (And.intro hF (hd.gr gV))
 have HV:=Lib.hid hV
 have HG:=Lib.hid gV
 have hsw:=gV.size
 have HRW:=Lib.hid h
 clear hV gV h hd hF
 obtain ⟨kl,hkl⟩:=keyA
 go_enter Tryz.func83,Tryz.ntmps83
 go_upto_region 1 with (fail)
 rw[←HV.out]
 clear HV
 go_upto_region 4 with (fail)
 refine wp_region_Z 9 (Gr V) (by kernel_rfl) ?_
 have hS0:Gr V V.drew:=Gr.drew (Gr.refl _)
 obtain ⟨W0,hW0⟩:∃W0,W0=V.drew:=⟨_,rfl⟩
 rw[←hW0] at hS0 ⊢
 clear hW0
 refine zu 0 rfl hS0 (fun W hS=>by go_simp;rfl) ?_
 refine zu 1 rfl hS0 (fun W hS=>by go_simp;rfl) ?_
 refine zu 2 rfl hS0 (fun W hS=>by go_simp;rfl) ?_
 refine zu 3 rfl hS0 (fun W hS=>by have s2:=(Below.cell hS (p:=⟨F,2,none⟩) lfV).trans f2;go_simp;rfl) ?_
 refine zu 4 rfl hS0 (fun W hS=>by go_simp;rfl) ?_
 refine zu 5 rfl hS0 (fun W hS=>by have s1:=(Below.cell hS (p:=⟨w.heap.size,1,none⟩) hz).trans c1;go_simp;rfl) ?_
 refine zu 6 rfl hS0 (fun W hS=>by go_simp;rfl) ?_
 refine zu 7 rfl hS0 (fun W hS=>by have s3:=(Below.cell hS (p:=⟨w.heap.size,3,none⟩) hz).trans c3;go_simp;rfl) ?_
 refine wpAnyZ_ready (rs:=[8]) (by kernel_rfl) (by simp) ?_
 refine AllReadyZ.cons (i:=8) rfl (by kernel_rfl) ?zx1 AllReadyZ.nil
 intro K hK
 simp only[List.getElem_toArray,List.getElem_cons_succ,List.getElem_cons_zero]
 go_simp
 refine (clone_gen gd d l hl _ (HF.out.2.gr hS0)).mono ?_;rintro x W1 ⟨A1,e,rfl,he, -, -,ho,hbk,g1⟩
 have hS1:Gr V W1:=hS0.trans g1
 have HO:=Lib.hid (And.intro he (And.intro ho hbk))
 have HS:=Lib.hid hS0
 clear he ho hbk g1 hS0
 go_wp2_with fail
 refine hK.out _ _ (fun hnz=>?zs2) (fun _=>?zr3)
 case zs2=>exact hS1
 clear hK K
 try (simp only[Pu,List.getElem_toArray,List.getElem_cons_succ,List.getElem_cons_zero])
 have hF1:=HF.out.1.gr hS1
 obtain ⟨clk,hb⟩:=hF1.mp
 have hu:=upd_none (P:=Tryz.prog) (w:=W1) Tryz.underlying74 keyedS hkl hb (.slice A1 l.length e)
 have hg0:=HS.out.size
 have hup:=hF1.updB (l:=l) (A:=A1) (c:=e) HO.out.1 HO.out.2.1 (HO.out.2.2.imp (fun g hg hgl=>⟨fun h=>by have:=HF.out.1.lp;omega,fun h=>by have:=HF.out.1.lm;omega,fun h=>by
  obtain ⟨v,xs,v1,v2,v3⟩:=HF.out.1.p0
  have:=(v3.lt g (by rw[v2];exact h)).2
  omega,fun h=>by have:=HF.out.1.yl g h;omega⟩)) (clk+1) clk
 have HU:=Lib.hid hup
 clear hup hg0 hF1
 refine wpAnyZ_ready (rs:=[9]) (by kernel_rfl) (by simp) ?_
 refine AllReadyZ.cons (i:=9) rfl (by kernel_rfl) ?zx4 AllReadyZ.nil
 intro K hK
 simp only[List.getElem_toArray,List.getElem_cons_succ,List.getElem_cons_zero]
 go_simp
 refine hK.out _ _ (fun hnz=>?zs5) (fun _=>?zr6)
 case zs5=>exact absurd rfl hnz
 clear hK K
 try (simp only[Pu,List.getElem_toArray,List.getElem_cons_succ,List.getElem_cons_zero])
 refine wpAnyZ_done (by kernel_rfl) ?_ _
 go_wp2
 go_end0
 exact ⟨rfl,HU.out.1,(Kp.of_gr _ (HG.out.trans hS1)).trans HU.out.2 (fun i _ h=>h)⟩
end
end Go.Proofs.YtoncapkmaeghfaaGreat
