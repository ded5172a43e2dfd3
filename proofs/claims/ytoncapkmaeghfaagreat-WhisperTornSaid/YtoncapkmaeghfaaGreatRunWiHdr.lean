import Derived.Test.YtoncapkmaeghfaaGreatRunWiGat
import Derived.Test.YtoncapkmaeghfaaGreatRunVfFs
import Derived.Test.YtoncapkmaeghfaaGreatRunFxBase
set_option linter.all false
set_option maxRecDepth 1000000
set_option maxHeartbeats 12800000
namespace Go.Proofs.YtoncapkmaeghfaaGreat
open Go.RowKit
def arN (m:Arcs):Nat→List Nat
 | 0=>[]
 | k+1=>arN m k++archN m k
theorem arN_len (m:Arcs):∀k,(arN m k).length=3*k
 | 0=>rfl
 | k+1=>by rw[arN,List.length_append,arN_len m k];rfl
theorem archsB_four (m:Arcs):∀k,archsB m k=fourS (arN m k)
 | 0=>rfl
 | k+1=>by rw[arN,fourS_app,←archsB_four m k];rfl
theorem arN_at (m:Arcs) (k i j:Nat) (hj:j<k) (hi:i<3) (d:Nat):(arN m k).getD (3*j+i) d=(archN m j).getD i d:=by
 induction k with
 | zero=>omega
 | succ k ih=>
  rw[arN,List.getD_eq_getElem?_getD,List.getD_eq_getElem?_getD]
  rcases Nat.lt_or_ge j k with h|h
  ·
   rw[List.getElem?_append_left (by rw[arN_len];omega),←List.getD_eq_getElem?_getD,ih h,List.getD_eq_getElem?_getD]
  ·
   obtain rfl:j=k:=by omega
   rw[List.getElem?_append_right (by rw[arN_len];omega),arN_len]
   congr 2
   omega
def numsH (ag xf:Nat) (m:Arcs):List Nat:=headN ag xf m++arN m m.length
theorem hdrS_four (ag xf:Nat) (m:Arcs):hdrS ag xf m=fourS (numsH ag xf m):=by unfold hdrS numsH;rw[fourS_app,archsB_four]
theorem numsH_len (ag xf:Nat) (m:Arcs):(numsH ag xf m).length=4+3*m.length:=by unfold numsH;rw[List.length_append,arN_len];rfl
theorem numAt_four (l:List Nat) (r:List UInt8) (j:Nat) (hj:j<l.length) (hb:l.getD j 0<4294967296):numAt (fourS l++r) j=l.getD j 0:=by
 have hl:l=l.take j++(l.getD j 0::l.drop (j+1)):=by
  rw[List.getD_eq_getElem?_getD,List.getElem?_eq_getElem hj,Option.getD_some,←List.drop_eq_getElem_cons hj,List.take_append_drop]
 unfold numAt
 rw[if_pos (by rw[List.length_append,fourS_len];omega)]
 have e:fourS l++r=fourS (l.take j)++(beB (l.getD j 0) 4++(fourS (l.drop (j+1))++r)):=by
  conv=>lhs;rw[hl]
  rw[fourS_app]
  simp only[fourS,List.flatMap_cons,List.append_assoc]
 rw[e,List.drop_left' (by rw[fourS_len,List.length_take];omega),List.take_left' (beB_len _ _),ofB_beB]
 exact Nat.mod_eq_of_lt hb
theorem numsH_at (ag xf:Nat) (m:Arcs) (i:Nat) (hi:i<4):(numsH ag xf m).getD i 0=(headN ag xf m).getD i 0:=by
 unfold numsH
 rw[List.getD_eq_getElem?_getD,List.getD_eq_getElem?_getD,List.getElem?_append_left (show i<(headN ag xf m).length from hi)]
theorem numsH_arc (ag xf:Nat) (m:Arcs) (i j:Nat) (hj:j<m.length) (hi:i<3):(numsH ag xf m).getD (4+3*j+i) 0=(archN m j).getD i 0:=by
 rw[←arN_at m m.length i j hj hi 0]
 unfold numsH
 rw[List.getD_eq_getElem?_getD,List.getD_eq_getElem?_getD,List.getElem?_append_right (show (headN ag xf m).length≤_ by show 4≤_;omega)]
 congr 2
 show 4+3*j+i-4=_
 omega
def HdOk (ag xf:Nat) (m:Arcs) (D:List UInt8):Prop:=D.length=sizeS m∧∃r,D=hdrS ag xf m++r
theorem opS_hdr {ag xf:Nat} {m:Arcs} {D:List UInt8} (hM:mayH ag xf (ints m)=true) (h:HdOk ag xf m D):opS D=some (ag,xf,m):=by
 obtain ⟨hl,r,hr⟩:=h
 have hF:=MayF.ofH hM
 have hM2:=hM
 unfold mayH at hM2
 rw[Bool.and_eq_true,decide_eq_true_eq] at hM2
 have hD:D=fourS (numsH ag xf m)++r:=by rw[hr,hdrS_four]
 have hsp:(lastS m).1*(lastS m).2≤4294967295:=hF.last
 have hn:∀i,i<4→(headN ag xf m).getD i 0<4294967296→numAt D i=(headN ag xf m).getD i 0:=fun i hi hb=>by
  rw[hD,numAt_four _ _ _ (by rw[numsH_len];omega) (by rw[numsH_at _ _ _ _ hi];exact hb),numsH_at _ _ _ _ hi]
 have n0:numAt D 0=ag:=hn 0 (by decide) (by show ag<_;omega)
 have n2:numAt D 2=xf:=hn 2 (by decide) (by show xf<_;omega)
 have n3:numAt D 3=m.length:=hn 3 (by decide) (by show m.length<_;have:=hF.l8;omega)
 have ha:∀k,k≤m.length→arcsAt D k=m.take k:=fun k=>by
  induction k with
  | zero=>intro _;rfl
  | succ k ih=>
   intro hk
   rw[arcsAt,ih (by omega),List.take_succ_eq_append_getElem (by omega)]
   congr 2
   have hs:=hF.s1 k (by omega)
   have hc:=hF.c1 k (by omega)
   have q1:numAt D (4+3*k+1)=stpS m k:=by
    rw[hD,numAt_four _ _ _ (by rw[numsH_len];omega) (by rw[numsH_arc _ _ _ _ _ (by omega) (by decide)];show stpS m k<_;omega),numsH_arc _ _ _ _ _ (by omega) (by decide)]
    rfl
   have q2:numAt D (4+3*k+2)=cntS m k:=by
    rw[hD,numAt_four _ _ _ (by rw[numsH_len];omega) (by rw[numsH_arc _ _ _ _ _ (by omega) (by decide)];show cntS m k<_;omega),numsH_arc _ _ _ _ _ (by omega) (by decide)]
    rfl
   unfold arcAt
   rw[q1,q2,stpS_at (by omega),cntS_at (by omega)]
 have ham:arcsAt D m.length=m:=by rw[ha _ (Nat.le_refl _),List.take_length]
 have hde:decH D=some (ag,xf,m):=by
  have:=decH_yes (L:=D) (by rw[n3,hr,List.length_append,hdrS_len];omega) (by rw[n0,n2,n3,ham];exact hM) (by rw[n0,n2,n3,ham,List.isPrefixOf_iff_prefix];exact ⟨r,hr.symm⟩)
  rw[n0,n2,n3,ham] at this
  exact this
 unfold opS
 rw[hde]
 simp only
 rw[if_pos hl.symm]
theorem atS_off {m:Arcs} (i:Nat) (t:Int):16+12*m.length≤atS m i t:=by unfold atS offS;omega
theorem HdOk.lay {ag xf:Nat} {m:Arcs} {D:List UInt8} (h:HdOk ag xf m D) (hF:MayF m) {i:Nat} (hi:i<m.length) (t n:Int):HdOk ag xf m (layS m D i t n):=by
 refine ⟨layS_len hF h.1 hi t n,?_⟩
 obtain ⟨hl,r,hr⟩:=h
 have ho:=atS_off (m:=m) i t
 have hh:=hdrS_len ag xf m
 refine ⟨(layS m D i t n).drop (16+12*m.length),?_⟩
 conv=>lhs;rw[←List.take_append_drop (16+12*m.length) (layS m D i t n)]
 congr 1
 unfold layS putB
 rw[List.take_append_of_le_length (by rw[List.length_take];have:=(atS_in hF hi t).2;omega),List.take_take,Nat.min_eq_left ho,hr]
 exact List.take_left' hh
theorem HdOk.up {ag xf:Nat} {m:Arcs} (hF:MayF m) {a x t:Int}:∀(k i:Nat) (D:List UInt8),i+k=m.length→HdOk ag xf m D→HdOk ag xf m (upS a x m t i k D)
 | 0,_,_,_,h=>h
 | k+1,i,D,hk,h=>by
  rw[upS]
  cases e:gathS a x m D i t with
  | none=>exact h
  | some D'=>
   unfold gathS at e
   split at e
   ·
    injection e with e
    exact HdOk.up hF k (i+1) D' (by omega) (by rw[←e];exact h.lay hF (by omega) _ _)
   ·
    cases e
theorem HdOk.lays {ag xf:Nat} {m:Arcs} (hF:MayF m) {a x:Int} {D D':List UInt8} (h:HdOk ag xf m D) {t n now:Int} (e:laysS a x m D t n now=some D'):HdOk ag xf m D':=by
 have hf:=firstS_le m t now
 unfold laysS at e
 split at e
 ·
  cases e
 ·
  split at e
  ·
   cases e
  ·
   split at e
   ·
    cases e
   ·
    injection e with e
    rw[←e]
    exact HdOk.up hF _ _ _ (by omega) (h.lay hF (by omega) _ _)
theorem HdOk.upd {ag xf:Nat} {m:Arcs} (hF:MayF m) {a x now:Int}:∀(l:List (Int×Int)) (s:Nat×List UInt8),HdOk ag xf m s.2→HdOk ag xf m (updS a x m now l s).2
 | [],_,h=>h
 | p::r,s,h=>by
  rw[updS]
  cases e:laysS a x m s.2 p.1 p.2 now with
  | none=>exact HdOk.upd hF r s h
  | some D=>exact HdOk.upd hF r _ (HdOk.lays hF h e)
def newS (ag xf:Nat) (m:Arcs):List UInt8:=hdrS ag xf m++List.replicate (sizeS m-(16+12*m.length)) 0
theorem newS_ok (ag xf:Nat) (m:Arcs):HdOk ag xf m (newS ag xf m):=by
 refine ⟨?_,_,rfl⟩
 unfold newS
 have:=sizeS_eq m
 rw[List.length_append,hdrS_len,List.length_replicate]
 omega
theorem putB_at (l d:List UInt8) (k j:Nat) (h:k+d.length≤l.length):(putB l k d)[j]?=if j<k then l[j]? else if j<k+d.length then d[j-k]? else l[j]?:=by
 unfold putB
 have e1:(l.take k).length=k:=by rw[List.length_take];omega
 by_cases h1:j<k
 ·
  rw[if_pos h1,List.getElem?_append_left (by omega),List.getElem?_take,if_pos h1]
 ·
  rw[if_neg h1,List.getElem?_append_right (by omega),e1]
  by_cases h2:j<k+d.length
  ·
   rw[if_pos h2,List.getElem?_append_left (by omega)]
  ·
   rw[if_neg h2,List.getElem?_append_right (by omega),List.getElem?_drop]
   congr 1
   omega
theorem slotS_at (l:List UInt8) (k j:Nat):(slotS l k)[j]?=if j<12 then l[k+j]? else none:=by
 unfold slotS
 rw[List.getElem?_take,List.getElem?_drop]
theorem slot_same {D:List UInt8} {k:Nat} {d:List UInt8} (hd:d.length=12) (h:k+12≤D.length):slotS (putB D k d) k=d:=by
 apply List.ext_getElem?
 intro j
 rw[slotS_at]
 by_cases hj:j<12
 ·
  rw[if_pos hj,putB_at _ _ _ _ (by omega),if_neg (by omega),if_pos (by omega)]
  congr 1
  omega
 ·
  rw[if_neg hj,List.getElem?_eq_none (by omega)]
theorem slot_other {D:List UInt8} {k k':Nat} {d:List UInt8} (hd:d.length=12) (h:k+12≤D.length) (hk:k'+12≤k∨k+12≤k'):slotS (putB D k d) k'=slotS D k':=by
 apply List.ext_getElem?
 intro j
 rw[slotS_at,slotS_at]
 by_cases hj:j<12
 ·
  rw[if_pos hj,if_pos hj,putB_at _ _ _ _ (by omega)]
  by_cases h1:k'+j<k
  ·
   rw[if_pos h1]
  ·
   rw[if_neg h1,if_neg (by omega)]
 ·
  rw[if_neg hj,if_neg hj]
def pS (m:Arcs) (i:Nat) (t:Int):Nat:=(placeS (stpS m i) (cntS m i) t).toNat
theorem atS_eq (m:Arcs) (i:Nat) (t:Int):atS m i t=offS m i+12*pS m i t:=rfl
def FlR (w:World) (v:Value) (Q:Nat→Prop):Option (List UInt8)→Prop
 | none=>∃c,v= .slice none 0 c
 | some l=>∃b c G d,v= .slice (some ⟨b,0,none⟩) 1 c∧1≤c∧b<w.heap.size∧Q b∧w.cell? ⟨b,0,none⟩=some (.string nmA)∧w.cell? ⟨b,1,none⟩=some (.slice G l.length d)∧l.length≤d∧Rb w G l∧∀ad,G=some ad→ad.block<w.heap.size∧Q ad.block
theorem FlR.kp {w w':World} {v:Value} {Q:Nat→Prop} {D:Option (List UInt8)} {S:Nat→Prop} (h:FlR w v Q D) (k:Kp S w w') (hS:∀g,g<w.heap.size→Q g→¬S g):FlR w' v Q D:=by
 cases D with
 | none=>exact h
 | some l=>
  obtain ⟨b,c,G,d,e,hc,hb,hq,h0,h1,hd,hr,hg⟩:=h
  exact ⟨b,c,G,d,e,hc,Nat.lt_of_lt_of_le hb k.size,hq,(k.cell (a:=⟨b,0,none⟩) hb (hS b hb hq)).trans h0,(k.cell (a:=⟨b,1,none⟩) hb (hS b hb hq)).trans h1,hd,k.rd hr (fun _ ad e=>hS _ (hg ad e).1 (hg ad e).2),fun ad e=>⟨Nat.lt_of_lt_of_le (hg ad e).1 k.size,(hg ad e).2⟩⟩
theorem FlR.imp {w:World} {v:Value} {Q Q':Nat→Prop} {D:Option (List UInt8)} (h:FlR w v Q D) (hq:∀k,k<w.heap.size→Q k→Q' k):FlR w v Q' D:=by
 cases D with
 | none=>exact h
 | some l=>
  obtain ⟨b,c,G,d,e,hc,hb,hqb,h0,h1,hd,hr,hg⟩:=h
  exact ⟨b,c,G,d,e,hc,hb,hq b hb hqb,h0,h1,hd,hr,fun ad e=>⟨(hg ad e).1,hq _ (hg ad e).1 (hg ad e).2⟩⟩
structure RsM (Y:Nat→Prop) (w:World) (X:Nat) (R:Option Nat) (room:Int) (n:Nat) (D:Option (List UInt8)):Prop where
 lX:X<w.heap.size
 x0:w.cell? ⟨X,0,none⟩=some (.int .i64 room)
 x1:∃v,w.cell? ⟨X,1,none⟩=some v∧FlR w v (fun g=>g≠X∧R≠some g∧¬Y g) D
 x2:∃y,w.cell? ⟨X,2,none⟩=some y
 x3:∃v xs,w.cell? ⟨X,3,none⟩=some v∧v.ownBlock=R∧w.ownsRow 0 120 4 v n xs
 z1:w.frozen? ⟨X,1,none⟩=false
 z2:w.frozen? ⟨X,2,none⟩=false
 z3:w.frozen? ⟨X,3,none⟩=false
 rX:R≠some X
 nY:¬Y X
 rY:∀k,R=some k→¬Y k
 yl:∀k,Y k→k<w.heap.size
def Xch (X:Nat) (R:Option Nat) (k:Nat):Prop:=k=X∨R=some k
theorem RsM.lR {w:World} {Y:Nat→Prop} {X:Nat} {R:Option Nat} {room:Int} {n:Nat} {D:Option (List UInt8)} (h:RsM Y w X R room n D):∀i,R=some i→i<w.heap.size:=fun i e=>by
 obtain ⟨v,xs,v1,v2,v3⟩:=h.x3
 exact (v3.lt i (by rw[v2];exact e)).2
theorem RsM.kp {w w':World} {Y:Nat→Prop} {X:Nat} {R:Option Nat} {room:Int} {n:Nat} {D:Option (List UInt8)} {S:Nat→Prop} (h:RsM Y w X R room n D) (k:Kp S w w') (hS:∀g,g<w.heap.size→S g→Y g):RsM Y w' X R room n D:=by
 obtain ⟨v,v1,v2⟩:=h.x1
 obtain ⟨y,hy⟩:=h.x2
 obtain ⟨u,xs,u1,u2,u3⟩:=h.x3
 have nX:¬S X:=fun e=>h.nY (hS X h.lX e)
 exact ⟨Nat.lt_of_lt_of_le h.lX k.size,(k.cell (a:=⟨X,0,none⟩) h.lX nX).trans h.x0,⟨v,(k.cell (a:=⟨X,1,none⟩) h.lX nX).trans v1,v2.kp k (fun g hg hq e=>hq.2.2 (hS g hg e))⟩,⟨y,(k.cell (a:=⟨X,2,none⟩) h.lX nX).trans hy⟩,⟨u,xs,(k.cell (a:=⟨X,3,none⟩) h.lX nX).trans u1,u2,k.own u3 (fun i hi e=>by
  rw[u2] at hi
  exact h.rY i hi (hS i (h.lR i hi) e))⟩,(k.frozen (a:=⟨X,1,none⟩) h.lX nX).trans h.z1,(k.frozen (a:=⟨X,2,none⟩) h.lX nX).trans h.z2,(k.frozen (a:=⟨X,3,none⟩) h.lX nX).trans h.z3,h.rX,h.nY,h.rY,fun i hi=>Nat.lt_of_lt_of_le (h.yl i hi) k.size⟩
theorem RsM.gr {w w':World} {Y:Nat→Prop} {X:Nat} {R:Option Nat} {room:Int} {n:Nat} {D:Option (List UInt8)} (h:RsM Y w X R room n D) (g:Gr w w'):RsM Y w' X R room n D:=
 h.kp (Kp.of_gr (fun _=>False) g) (fun _ _ h=>h.elim)
theorem xis_any (s:ByteArray) (w:World):Calls Tryz.prog 52 #[.string s] w fun e w'=>e= .returned (.bool (decide (1≤s.size)&&decide (s.size≤255)))∧w=w':=by
 by_cases h1:1≤s.size
 ·
  have h1i:(1:Int)≤(s.size:Int):=by omega
  by_cases h2:s.size≤255
  ·
   have h2i:(s.size:Int)≤255:=by omega
   have HD:Hid ((decide (1≤s.size)&&decide (s.size≤255))=true):=Lib.hid (by rw[decide_eq_true h1,decide_eq_true h2];rfl)
   clear h1 h2
   go_enter Tryz.func52,Tryz.ntmps52
   go_wp2
   go_ret
   exact ⟨ret_b (by rw[HD.out]),rfl⟩
  ·
   have h2i:¬(s.size:Int)≤255:=by omega
   have HD:Hid ((decide (1≤s.size)&&decide (s.size≤255))=false):=Lib.hid (by rw[decide_eq_false h2,Bool.and_false])
   clear h1 h2
   go_enter Tryz.func52,Tryz.ntmps52
   go_wp2
   go_ret
   exact ⟨ret_b (by rw[HD.out]),rfl⟩
 ·
  have h1i:¬(1:Int)≤(s.size:Int):=by omega
  have HD:Hid ((decide (1≤s.size)&&decide (s.size≤255))=false):=Lib.hid (by rw[decide_eq_false h1,Bool.false_and])
  clear h1
  go_enter Tryz.func52,Tryz.ntmps52
  go_wp2
  go_ret
  exact ⟨ret_b (by rw[HD.out]),rfl⟩
theorem xfind_none (c:Nat) (w:World):Calls Tryz.prog 53 #[.slice none 0 c, .string nmA] w fun e w'=>e= .returned (.int .i64 (-1))∧w=w':=by
 go_enter Tryz.func53,Tryz.ntmps53
 go_wp2
 go_loopw [5] (fun i wr=>i= .int .i64 0∧w=wr) (fun _ _=>0)
 case atStart=>exact ⟨rfl,rfl⟩
 case round=>
  obtain ⟨rfl,rfl⟩:=hrel
  go_wp2
  go_ret
  exact ⟨rfl,rfl⟩
theorem xfind_some (b c:Nat) (w:World) (hb:b<w.heap.size) (h0:w.cell? ⟨b,0,none⟩=some (.string nmA)):Calls Tryz.prog 53 #[.slice (some ⟨b,0,none⟩) 1 c, .string nmA] w fun e w'=>e= .returned (.int .i64 0)∧w=w':=by
 have hs:(nmA==nmA)=true:=by decide
 generalize nmA=s at *
 go_enter Tryz.func53,Tryz.ntmps53
 go_wp2
 go_loopw [5] (fun i wr=>i= .int .i64 0∧w=wr) (fun _ _=>0)
 case atStart=>exact ⟨rfl,rfl⟩
 case round=>
  obtain ⟨rfl,rfl⟩:=hrel
  go_wp2
  go_ret
  exact ⟨rfl,rfl⟩
theorem xsize_some {Y:Nat→Prop} {X:Nat} {R:Option Nat} {room:Int} {n:Nat} {l:List UInt8} (w:World) (h:RsM Y w X R room n (some l)):Calls Tryz.prog 24 #[.pointer (some ⟨X,0,none⟩), .string nmA] w fun e w'=>e= .returned (.tuple #[.int .i64 l.length, .int .i64 0])∧w=w':=by
 have lX:=h.lX
 obtain ⟨v,v1,v2⟩:=h.x1
 obtain ⟨b,c,G,d,rfl,hc1,hb, -,h0,h1,hd,hr,hG⟩:=v2
 clear h hr hG
 go_enter Tryz.func24,Tryz.ntmps24
 go_wp2_with (first|(go_at_call 52;refine (xis_any nmA _).mono ?_;rintro e w1 ⟨rfl,rfl⟩;rw[nmA_ok])|(go_at_call 53;refine (xfind_some b c _ hb h0).mono ?_;rintro e w2 ⟨rfl,rfl⟩))
 go_ret2
 exact ⟨rfl,rfl⟩
theorem xused_none {Y:Nat→Prop} {X:Nat} {R:Option Nat} {room:Int} {n:Nat} (w:World) (h:RsM Y w X R room n none):Calls Tryz.prog 54 #[.pointer (some ⟨X,0,none⟩)] w fun e w'=>e= .returned (.int .i64 0)∧w=w':=by
 obtain ⟨v,v1,c,rfl⟩:=h.x1
 clear h
 go_enter Tryz.func54,Tryz.ntmps54
 go_wp2
 go_loopw [4,3] (fun i s wr=>i= .int .i64 0∧s= .int .i64 0∧w=wr) (fun _ _ _=>0)
 case atStart=>exact ⟨rfl,rfl,rfl⟩
 case round=>
  obtain ⟨rfl,rfl,rfl⟩:=hrel
  go_wp2
  go_ret
  exact ⟨rfl,rfl⟩
def RetBr (l:List UInt8) (w:World) (e:Ending) (w':World):Prop:=∃A c,e= .returned (.tuple #[.slice A l.length c, .int .i64 0])∧l.length≤c∧w'.ownsRow w.heap.size 5 1 (.slice A l.length c) l.length (bys l)∧Gr w w'
theorem own_capU {w:World} {base:Nat} {e:TypeId} {size n c:Nat} {A:Option Addr} {xs:List Value} (h:w.ownsRow base e size (.slice A n c) n xs):n≤c:=by
 obtain ⟨h1,⟨hv,h0⟩|⟨g',cap,cur,hv,hb,hh,h2, -⟩⟩:=h
 ·
  injection hv with _ hn hc;omega
 ·
  injection hv with _ hn hc
  first|omega|(subst hc;first|exact h2|omega)
theorem info_u8R:(Tryz.prog.info? 5).map (fun i=>(i.zero,i.size,i.bytes))=some (some (.int .u8 0),1,1):=by kernel_rfl
theorem xread_all {Y:Nat→Prop} {X:Nat} {R:Option Nat} {room:Int} {n:Nat} {l:List UInt8} (hl:(l.length:Int)≤1073741824) (w:World) (h:RsM Y w X R room n (some l)):Calls Tryz.prog 25 #[.pointer (some ⟨X,0,none⟩), .string nmA, .int .i64 0, .int .i64 l.length] w (RetBr (l) w):=by
 obtain ⟨i0,hi0,hy0,hy1,hy2⟩:=info_parts info_u8R
 have lX:=h.lX
 obtain ⟨v,v1,v2⟩:=h.x1
 obtain ⟨b,c,G,d,rfl,hc1,hb, -,h0,h1,hd,hr,hG⟩:=v2
 have zl:IntKind.i64.wrap (l.length:Int)=(l.length:Int):=IntWalk.i64_in _ (by omega)
 have HX:=Lib.hid (And.intro hr hG)
 clear h hr hG
 go_enter Tryz.func25,Tryz.ntmps25
 go_upto_region 8 with (first|(go_at_call 52;refine (xis_any nmA _).mono ?_;rintro e w1 ⟨rfl,rfl⟩;rw[nmA_ok])|(go_at_call 53;refine (xfind_some b c _ hb h0).mono ?_;rintro e w2 ⟨rfl,rfl⟩))
 have own1:(w.alloc (.cells #[] 5)).ownsRow w.heap.size 5 1 (.slice (some ⟨w.heap.size,0,none⟩) 0 0) 0 []:=World.ownsRow_made w #[] 0 (Nat.le_refl _) (by decide) rfl
 have hrd:Rd (w.alloc (.cells #[] 5)) 1 (G) (l.length) (bys l):=(Rd.gr HX.out.1 (Gr.alloc (Gr.refl w) _))
 go_wp2_with (at_builtin;refine wpList_append_rd rfl (.tmp 59) (.tmp 72) 49 rfl w.heap.size 5 i0 _ 1 1 Tryz.underlying49 hi0 hy0 hy1 hy2 rfl (by decide) _ 0 _ rfl own1 (G) (l.length) _ (bys l) rfl hrd (bys_one _) (by unfold maxLen;omega) (by omega) (by simp) ?_;intro v9 w9 own9 hgr9 hob9;obtain ⟨A9,c9,hv9⟩:=own_form own9;subst hv9;rw[Nat.zero_add,List.nil_append] at own9;have H9:=Lib.hid (And.intro own9 hgr9);clear own9 hgr9 hob9)
 go_ret2
 obtain ⟨own9,hgr9⟩:=H9.out
 refine ⟨A9,c9,rfl,by first|exact own_capU own9|simpa using own_capU own9,by first|exact own9|simpa using own9,(Gr.alloc (Gr.refl w) _).grown hgr9 (fun k e=>by have e2:some w.heap.size=some k:=e;injection e2 with e2;omega)⟩
theorem rd_part {w:World} {l:List UInt8} {ad:Addr} {at_ k:Nat} (h1:(bys l).length=l.length*1) (hb:ad.block<w.heap.size) (hc:∀j u,(bys l)[j]?=some u→w.cell? (ad.add j)=some u) (hk:0<k) (hle:at_+k≤l.length):Rd w 1 (some (ad.add at_)) k (bys ((l.drop at_).take k)):=by
 have e:((l.drop at_).take k).length=k:=by rw[List.length_take,List.length_drop];omega
 refine ⟨by rw[bys_length,e],fun _=>⟨_,rfl,by rw[add_blk];exact hb,fun j u hu=>?_⟩⟩
 rw[add_two]
 have hj:j<k:=by
  have:=(List.getElem?_eq_some_iff.1 hu).1
  rw[bys_length,e] at this
  omega
 refine hc (at_+j) u ?_
 rw[←hu]
 simp only[bys,List.getElem?_map,List.getElem?_take,List.getElem?_drop]
 rw[if_pos hj]
theorem xread_part {Y:Nat→Prop} {X:Nat} {R:Option Nat} {room:Int} {n:Nat} {l:List UInt8} (hl:(l.length:Int)≤1073741824) (at_ k:Nat) (hk:0<k) (hle:at_+k≤l.length) (w:World) (h:RsM Y w X R room n (some l)):Calls Tryz.prog 25 #[.pointer (some ⟨X,0,none⟩), .string nmA, .int .i64 (at_:Nat), .int .i64 (k:Nat)] w (RetBr ((l.drop at_).take k) w):=by
 obtain ⟨i0,hi0,hy0,hy1,hy2⟩:=info_parts info_u8R
 have lX:=h.lX
 obtain ⟨v,v1,v2⟩:=h.x1
 obtain ⟨b,c,G,d,rfl,hc1,hb, -,h0,h1,hd,hr,hG⟩:=v2
 obtain ⟨ad,rfl,hab,hac⟩:=hr.2 (by omega)
 have HR2:Hid (Rd w 1 (some (ad.add at_)) k (bys ((l.drop at_).take k))):=Lib.hid (rd_part hr.1 hab hac hk hle)
 have za:¬(at_:Int)<0:=by omega
 have zb:¬(k:Int)<0:=by omega
 have zc:¬(l.length:Int)<(at_:Int):=by omega
 have zd:IntKind.i64.wrap ((l.length:Int)-(at_:Int))=(l.length:Int)-(at_:Int):=IntWalk.i64_in _ (by omega)
 have ze:¬(l.length:Int)-(at_:Int)<(k:Int):=by omega
 have zf:IntKind.i64.wrap ((at_:Int)+(k:Int))=((at_+k:Nat):Int):=by rw[Int.natCast_add];exact IntWalk.i64_in _ (by omega)
 have zg:(at_:Int)≤((at_+k:Nat):Int):=by omega
 have zh:((at_+k:Nat):Int)≤(d:Int):=by omega
 have zi:at_<d:=by omega
 have zj:at_+k-at_=k:=by omega
 have hki:(k:Int)≤1073741824:=by omega
 have zk:at_≤l.length:=by omega
 clear h hr hG hac
 go_enter Tryz.func25,Tryz.ntmps25
 go_upto_region 8 with (first|(go_at_call 52;refine (xis_any nmA _).mono ?_;rintro e w1 ⟨rfl,rfl⟩;rw[nmA_ok])|(go_at_call 53;refine (xfind_some b c _ hb h0).mono ?_;rintro e w2 ⟨rfl,rfl⟩))
 have own1:(w.alloc (.cells #[] 5)).ownsRow w.heap.size 5 1 (.slice (some ⟨w.heap.size,0,none⟩) 0 0) 0 []:=World.ownsRow_made w #[] 0 (Nat.le_refl _) (by decide) rfl
 have hrd:Rd (w.alloc (.cells #[] 5)) 1 (some (ad.add at_)) (at_+k-at_) (bys ((l.drop at_).take k)):=by rw[zj];exact (Rd.gr HR2.out (Gr.alloc (Gr.refl w) _))
 go_wp2_with (at_builtin;refine wpList_append_rd rfl (.tmp 59) (.tmp 72) 49 rfl w.heap.size 5 i0 _ 1 1 Tryz.underlying49 hi0 hy0 hy1 hy2 rfl (by decide) _ 0 _ rfl own1 (some (ad.add at_)) (at_+k-at_) _ (bys ((l.drop at_).take k)) rfl hrd (bys_one _) (by unfold maxLen;omega) (by omega) (by simp) ?_;intro v9 w9 own9 hgr9 hob9;obtain ⟨A9,c9,hv9⟩:=own_form own9;subst hv9;rw[Nat.zero_add,zj,List.nil_append] at own9;have H9:=Lib.hid (And.intro own9 hgr9);clear own9 hgr9 hob9)
 go_ret2
 obtain ⟨own9,hgr9⟩:=H9.out
 have EL:((l.drop at_).take k).length=k:=by rw[List.length_take,List.length_drop];omega
 unfold RetBr
 rw[EL]
 refine ⟨A9,c9,rfl,by first|exact own_capU own9|simpa using own_capU own9,by first|exact own9|simpa using own9,(Gr.alloc (Gr.refl w) _).grown hgr9 (fun k e=>by have e2:some w.heap.size=some k:=e;injection e2 with e2;omega)⟩
theorem RsM.sync {Y:Nat→Prop} {X:Nat} {R:Option Nat} {room:Int} {n:Nat} {D:Option (List UInt8)} {w:World} (h:RsM Y w X R room n D) {v:Value} (hv:w.cell? ⟨X,1,none⟩=some v):RsM Y ((w.setCell ⟨X,2,none⟩ v).setCell ⟨X,3,none⟩ (.slice none 0 0)) X none room 0 D∧Kp (fun k=>k=X) w ((w.setCell ⟨X,2,none⟩ v).setCell ⟨X,3,none⟩ (.slice none 0 0)):=by
 have k:Kp (fun k=>k=X) w ((w.setCell ⟨X,2,none⟩ v).setCell ⟨X,3,none⟩ (.slice none 0 0)):=((Kp.refl (fun k=>k=X) w).set (p:=⟨X,2,none⟩) (.inl rfl) v).set (p:=⟨X,3,none⟩) (.inl rfl) _
 obtain ⟨v',v1,v2⟩:=h.x1
 obtain ⟨y,hy⟩:=h.x2
 obtain ⟨u,xs,u1,u2,u3⟩:=h.x3
 rw[hv] at v1
 injection v1 with v1
 subst v1
 have e:∀o,o≠2→o≠3→((w.setCell ⟨X,2,none⟩ v).setCell ⟨X,3,none⟩ (.slice none 0 0)).cell? ⟨X,o,none⟩=w.cell? ⟨X,o,none⟩:=fun o h2 h3=>(World.cell?_setCell_other _ ⟨X,3,none⟩ ⟨X,o,none⟩ _ (by first|(simp[h3];done)|(simp;omega))).trans (World.cell?_setCell_other _ ⟨X,2,none⟩ ⟨X,o,none⟩ _ (by first|(simp[h2];done)|(simp;omega)))
 refine ⟨⟨Nat.lt_of_lt_of_le h.lX k.size,(e 0 (by decide) (by decide)).trans h.x0,⟨v,(e 1 (by decide) (by decide)).trans hv,?_⟩,⟨v,?_⟩,⟨.slice none 0 0,[],?_,rfl,World.ownsRow_nil _ _ _ _⟩,?_,?_,?_,(fun e=>by cases e),h.nY,(fun _ e=>by cases e),fun i hi=>Nat.lt_of_lt_of_le (h.yl i hi) k.size⟩,k⟩
 ·
  exact (v2.kp k (fun g _ hq e=>hq.1 e)).imp (fun g _ hq=>⟨hq.1,(fun e=>by cases e),hq.2.2⟩)
 ·
  exact (World.cell?_setCell_other _ ⟨X,3,none⟩ ⟨X,2,none⟩ _ (by first|(simp;done)|(simp;omega))).trans (World.cell?_setCell_same' _ _ _ (by rw[hy];rfl))
 ·
  exact World.cell?_setCell_same' _ _ _ (by rw[World.cell?_setCell_other _ ⟨X,2,none⟩ ⟨X,3,none⟩ _ (by first|(simp;done)|(simp;omega)),u1];rfl)
 ·
  rw[World.frozen?_setCell,World.frozen?_setCell];exact h.z1
 ·
  rw[World.frozen?_setCell,World.frozen?_setCell];exact h.z2
 ·
  rw[World.frozen?_setCell,World.frozen?_setCell];exact h.z3
theorem xsync_any {Y:Nat→Prop} {X:Nat} {R:Option Nat} {room:Int} {n:Nat} {D:Option (List UInt8)} (w:World) (h:RsM Y w X R room n D):Calls Tryz.prog 35 #[.pointer (some ⟨X,0,none⟩)] w fun e w'=>e= .returned (.tuple #[])∧RsM Y w' X none room 0 D∧Kp (fun k=>k=X) w w':=by
 obtain ⟨v,v1,v2⟩:=h.x1
 obtain ⟨y,hy⟩:=h.x2
 obtain ⟨u,xs,u1,u2,u3⟩:=h.x3
 have z2:=h.z2
 have z3:=h.z3
 have HS:=Lib.hid (h.sync v1)
 have hA:∃A0 n0 c0,v= .slice A0 n0 c0:=by
  cases D with
  | none=>obtain ⟨c,e⟩:=v2;exact ⟨_,_,_,e⟩
  | some l=>obtain ⟨b,c,G,d,e, -⟩:=v2;exact ⟨_,_,_,e⟩
 obtain ⟨A0,n0,c0,rfl⟩:=hA
 clear h v2 u2 u3
 go_enter Tryz.func35,Tryz.ntmps35
 go_wp2
 go_end0
 exact ⟨rfl,HS.out⟩
theorem RsM.new (Y:Nat→Prop) (room:Int) (w:World) (hY:∀k,Y k→k<w.heap.size):RsM Y (w.alloc (.cells #[.int .i64 room, .slice none 0 0, .slice none 0 0, .slice none 0 0] 83)) w.heap.size none room 0 none:=by
 refine ⟨by simp,by go_simp,⟨.slice none 0 0,by go_simp,0,rfl⟩,⟨.slice none 0 0,by go_simp⟩,⟨.slice none 0 0,[],by go_simp,rfl,World.ownsRow_nil _ _ _ _⟩,by go_simp,by go_simp,by go_simp,(fun e=>by cases e),fun e=>by have:=hY _ e;omega,(fun _ e=>by cases e),fun k hk=>by have:=hY k hk;simp;omega⟩
theorem xnew_any (room:Int) (h0:0≤room) (h1:room≤1073741824) (w:World):Calls Tryz.prog 10 #[.int .i64 room] w fun e w'=>e= .returned (.tuple #[.pointer (some ⟨w.heap.size,0,none⟩), .int .i64 0])∧w'=w.alloc (.cells #[.int .i64 room, .slice none 0 0, .slice none 0 0, .slice none 0 0] 83):=by
 have q0:¬room<0:=by omega
 have q1:¬1073741824<room:=by omega
 go_enter Tryz.func10,Tryz.ntmps10
 go_wp2
 go_ret2
 exact ⟨rfl,rfl⟩
theorem flat_take (ls:List (List UInt8)) (k:Nat) (h:k<ls.length):(ls.take (k+1)).flatten=(ls.take k).flatten++ls[k]:=by
 rw[List.take_succ_eq_append_getElem h,List.flatten_append]
 simp
theorem flat_len (ls:List (List UInt8)) (k:Nat):(ls.take k).flatten.length≤ls.flatten.length:=by
 conv=>rhs;rw[←List.take_append_drop k ls,List.flatten_append,List.length_append]
 omega
theorem xrows_any (b o n c:Nat) (ls:List (List UInt8)) (hn:ls.length=n) (hn9:n≤1000) (hs:(ls.flatten.length:Int)≤1073741824) (w:World) (hc:∀k (h:k<ls.length),∃A d,w.cell? ⟨b,o+k,none⟩=some (.slice A ls[k].length d)∧Rb w A ls[k]) (hb:0<n→b<w.heap.size) :
  Calls Tryz.prog 51 #[.slice (some ⟨b,o,none⟩) n c] w fun e w'=>∃A d,e= .returned (.slice A ls.flatten.length d)∧ls.flatten.length≤d∧w'.ownsRow w.heap.size 5 1 (.slice A ls.flatten.length d) ls.flatten.length (bys ls.flatten)∧Gr w w':=by
 obtain ⟨i0,hi0,hy0,hy1,hy2⟩:=info_parts info_u8R
 have hni:(n:Int)≤1000:=by omega
 have HH:=Lib.hid (And.intro hc (And.intro hs hn))
 clear hc hs hn hn9
 go_enter Tryz.func51,Tryz.ntmps51
 have own1:(w.alloc (.cells #[] 5)).ownsRow w.heap.size 5 1 (.slice (some ⟨w.heap.size,0,none⟩) 0 0) 0 []:=World.ownsRow_made w #[] 0 (Nat.le_refl _) (by decide) rfl
 have H1:=Lib.hid own1
 clear own1
 go_wp2
 go_loopw [3,4] (fun v i wr=>∃k:Nat,k≤n∧i= .int .i64 k∧Gr w wr∧wr.ownsRow w.heap.size 5 1 v (ls.take k).flatten.length (bys (ls.take k).flatten)) (fun _ i _=>n-(intOf i).toNat)
 case atStart=>exact ⟨0,Nat.zero_le _,rfl,Gr.alloc (Gr.refl w) _,H1.out⟩
 case round=>
  obtain ⟨k,hk,rfl,hgr,hown⟩:=hrel
  by_cases hlt:k<n
  ·
   have hlti:(k:Int)<(n:Int):=by omega
   have hkl:k<ls.length:=by rw[HH.out.2.2];exact hlt
   obtain ⟨A,d,cs0,hra0⟩:=HH.out.1 k hkl
   have hbw:=hb (by omega)
   have cs:=(Below.cell hgr (p:=⟨b,o+k,none⟩) hbw).trans cs0
   have hra:=hra0.gr hgr
   have hft:=flat_take ls k hkl
   have hfl:=flat_len ls (k+1)
   rw[hft] at hfl
   have hs2:=HH.out.2.1
   obtain ⟨x,hx⟩:∃x,x=ls[k]:=⟨_,rfl⟩
   obtain ⟨T,hT⟩:∃T,T=(ls.take k).flatten:=⟨_,rfl⟩
   rw[←hx] at cs hra hft hfl
   rw[←hT] at hown hft hfl
   have hlen:(T.length:Int)+(x.length:Int)≤1073741824:=by rw[List.length_append] at hfl;omega
   have hra':Rd wr 1 A x.length (bys x):=hra
   have HG:=Lib.hid hgr
   have HFT:=Lib.hid hft
   have hszz:=hgr.size
   clear hx hT cs0 hra0 hra hgr hft hfl hs2 hbw
   go_wp2_with (at_builtin;refine wpList_append_rd rfl (.tmp 12) (.tmp 16) 49 rfl w.heap.size 5 i0 _ 1 1 Tryz.underlying49 hi0 hy0 hy1 hy2 rfl (by decide) _ T.length _ rfl hown A x.length _ (bys x) rfl hra' (bys_one _) (by unfold maxLen;omega) (by omega) (by omega) ?_;intro v9 w9 own9 hgr9 hob9;have H9:=Lib.hid (And.intro own9 (And.intro hgr9 hown));clear own9 hgr9 hob9 hown)
   go_roundw
   case rel=>
    obtain ⟨own9,hgr9,hown⟩:=H9.out
    refine ⟨k+1,by omega,by go_num,HG.out.grown hgr9 (fun i e=>(hown.lt i e).1),?_⟩
    rw[HFT.out,List.length_append,bys_append]
    exact own9
   case measure=>simp[intOf];omega
  ·
   have hkk:k=n:=by omega
   subst hkk
   rw[List.take_of_length_le (by rw[HH.out.2.2];exact Nat.le_refl _)] at hown
   obtain ⟨A9,c9,hv9⟩:=own_form hown
   subst hv9
   have H9:=Lib.hid (And.intro hown hgr)
   clear hown hgr
   go_wp2
   go_ret
   exact ⟨A9,c9,rfl,own_capU H9.out.1,H9.out⟩
theorem info_file:(Tryz.prog.info? 128).map (fun i=>(i.zero,i.size,i.bytes))=some (some (.agg #[.string ByteArray.empty, .slice none 0 0]),2,40):=by kernel_rfl
theorem own_some {w:World} {base n:Nat} {e:TypeId} {size:Nat} {v:Value} {xs:List Value} (h:w.ownsRow base e size v n xs) (hv:v.ownBlock≠none):∃g c,v= .slice (some ⟨g,0,none⟩) n c∧base≤g:=by
 obtain ⟨h1,⟨hv2,h0⟩|⟨g',cap,cur,hv2,hb, -⟩⟩:=h
 ·
  rw[hv2] at hv;exact absurd rfl hv
 ·
  exact ⟨g',cap,hv2,hb⟩
def RetFl (A:Option Addr) (m:List UInt8) (w:World) (e:Ending) (w':World):Prop:=∃v',e= .returned v'∧FlR w' v' (fun g=>w.heap.size≤g∨∃ad,A=some ad∧ad.block=g) (some m)∧Gr w w'
theorem xdoes_new (A:Option Addr) (d:Nat) (at_:Int) (m:List UInt8) (hm:m.length≤d) (c:Nat) (w:World) (hr:Rb w A m) (hA:∀ad,A=some ad→ad.block<w.heap.size) :
  Calls Tryz.prog 85 #[.slice none 0 c, .agg #[.int .i64 1, .string nmA, .int .i64 at_, .slice A m.length d]] w (RetFl A m w):=by
 obtain ⟨i0,hi0,hy0,hy1,hy2⟩:=info_parts info_file
 obtain ⟨V,hV⟩:∃V,V=w.alloc (.cells #[.int .i64 1, .string nmA, .int .i64 at_, .slice A m.length d] 120):=⟨_,rfl⟩
 have gV:Gr w V:=by rw[hV];exact Gr.alloc (Gr.refl w) _
 have hz:w.heap.size<V.heap.size:=by rw[hV];simp
 have c0:V.cell? ⟨w.heap.size,0,none⟩=some (.int .i64 1):=by rw[hV];go_simp
 have c1:V.cell? ⟨w.heap.size,1,none⟩=some (.string nmA):=by rw[hV];go_simp
 have c2:V.cell? ⟨w.heap.size,2,none⟩=some (.int .i64 at_):=by rw[hV];go_simp
 have c3:V.cell? ⟨w.heap.size,3,none⟩=some (.slice A m.length d):=by rw[hV];go_simp
 have HV:=Lib.hid hV
 have HG:=Lib.hid gV
 have HR:=Lib.hid (And.intro hr hA)
 clear hV gV hr hA
 go_enter Tryz.func85,Tryz.ntmps85
 go_upto_region 1 with (fail)
 rw[←HV.out]
 clear HV
 go_upto_region 13 with (go_at_call 53;refine (xfind_none _ _).mono ?_;rintro e w2 ⟨rfl,rfl⟩)
 go_loopw [7,6] (fun k m wr=>k= .int .i64 0∧m= .slice none 0 0∧V=wr) (fun _ _ _=>0)
 case atStart=>exact ⟨rfl,rfl,rfl⟩
 case round=>
  obtain ⟨rfl,rfl,rfl⟩:=hrel
  go_upto_region 14 with (fail)
  have own0:V.ownsRow V.heap.size 128 2 (.slice none 0 0) 0 []:=World.ownsRow_nil _ _ _ _
  have hrx:Rd (V.alloc (.cells #[.string nmA, .slice A m.length d] 128)) 2 (some ⟨V.heap.size,0,none⟩) 1 [.string nmA, .slice A m.length d]:=Rd.newU (W:=V) (n:=1) (size:=2) rfl 128 [.string nmA, .slice A m.length d] rfl
  have own1:=own_grU own0 (Gr.alloc (Gr.refl V) (.cells #[.string nmA, .slice A m.length d] 128))
  go_wp2_with (at_builtin;refine wpList_append_rd rfl (.tmp 60) (.tmp 66) 80 rfl V.heap.size 128 i0 _ 2 40 Tryz.underlying80 hi0 hy0 hy1 hy2 rfl (by decide) _ 0 _ rfl own1 (some ⟨V.heap.size,0,none⟩) 1 _ [.string nmA, .slice A m.length d] rfl hrx (by intro u hu;simp at hu;rcases hu with rfl|rfl<;>rfl) (by unfold maxLen;omega) (by omega) (by first|(simp;done)|(simp;omega)) ?_;intro v9 w9 own9 hgr9 hob9;have H9:=Lib.hid (And.intro own9 hgr9);have hvo9:=own_form own9;clear own9 hgr9 hob9)
  obtain ⟨A9,c9,hv9⟩:=hvo9
  subst hv9
  go_ret
  obtain ⟨own9,hgr9⟩:=H9.out
  have hgw:Gr w w9:=(HG.out.trans (Gr.alloc (Gr.refl V) (.cells #[.string nmA, .slice A m.length d] 128))).grown hgr9 (fun k e=>by have e2:(none:Option Nat)=some k:=e;cases e2)
  rw[Nat.zero_add,List.nil_append] at own9
  obtain ⟨q,hq,hq1,hq2,hq3⟩:=own_blockU own9 (by decide)
  subst hq
  exact ⟨_,by first|rfl|(rw[Nat.zero_add]),⟨q,c9,A,d,by first|rfl|(rw[Nat.zero_add]),own_capU own9,hq2, .inl (Nat.le_trans HG.out.size hq1),hq3 0 _ rfl,hq3 1 _ rfl,hm,HR.out.1.gr hgw,fun ad e=>⟨Nat.lt_of_lt_of_le (HR.out.2 ad e) hgw.size, .inr ⟨ad,e,rfl⟩⟩⟩,hgw⟩
theorem xdoes_put (b c:Nat) (G:Option Addr) (dd:Nat) (l:List UInt8) (A:Option Addr) (d o:Nat) (m:List UInt8) (hl:(l.length:Int)≤1073741824) (hom:o+m.length≤l.length) (w:World) (hb:b<w.heap.size) (h0:w.cell? ⟨b,0,none⟩=some (.string nmA)) (h1:w.cell? ⟨b,1,none⟩=some (.slice G l.length dd)) (hrl:Rb w G l) (hr:Rb w A m) :
  Calls Tryz.prog 85 #[.slice (some ⟨b,0,none⟩) 1 c, .agg #[.int .i64 2, .string nmA, .int .i64 o, .slice A m.length d]] w fun e w'=>∃v',e= .returned v'∧FlR w' v' (fun g=>w.heap.size≤g) (some (putB l o m))∧Gr w w':=by
 obtain ⟨i0,hi0,hy0,hy1,hy2⟩:=info_parts info_file
 obtain ⟨j0,hj0,hk0,hk1,hk2⟩:=info_parts info_u8R
 obtain ⟨V,hV⟩:∃V,V=w.alloc (.cells #[.int .i64 2, .string nmA, .int .i64 o, .slice A m.length d] 120):=⟨_,rfl⟩
 have gV:Gr w V:=by rw[hV];exact Gr.alloc (Gr.refl w) _
 have hz:w.heap.size<V.heap.size:=by rw[hV];simp
 have c0:V.cell? ⟨w.heap.size,0,none⟩=some (.int .i64 2):=by rw[hV];go_simp
 have c1:V.cell? ⟨w.heap.size,1,none⟩=some (.string nmA):=by rw[hV];go_simp
 have c2:V.cell? ⟨w.heap.size,2,none⟩=some (.int .i64 o):=by rw[hV];go_simp
 have c3:V.cell? ⟨w.heap.size,3,none⟩=some (.slice A m.length d):=by rw[hV];go_simp
 have HV:=Lib.hid hV
 have HG:=Lib.hid gV
 have bV:=Nat.lt_of_lt_of_le hb gV.size
 have f0:=(Below.cell gV (p:=⟨b,0,none⟩) hb).trans h0
 have f1:=(Below.cell gV (p:=⟨b,1,none⟩) hb).trans h1
 have HR:=Lib.hid (hr.gr gV)
 have HL:=Lib.hid (hrl.gr gV)
 have hoi:(o:Int)≤(l.length:Int):=by omega
 clear hV gV hr hrl h0 h1
 go_enter Tryz.func85,Tryz.ntmps85
 go_upto_region 1 with (fail)
 rw[←HV.out]
 clear HV
 go_upto_region 3 with (go_at_call 53;refine (xfind_some b c _ bV f0).mono ?_;rintro e w2 ⟨rfl,rfl⟩)
 go_wp2
 go_loopw [7,6] (fun k u wr=>(k= .int .i64 0∧u= .slice none 0 0∧V=wr)∨(k= .int .i64 1∧FlR wr u (fun g=>w.heap.size≤g) (some (putB l o m))∧Gr V wr)) (fun k _ _=>1-(intOf k).toNat)
 case atStart=>exact .inl ⟨rfl,rfl,rfl⟩
 case round=>
  rcases hrel with ⟨rfl,rfl,rfl⟩|⟨rfl,hfl,hgr⟩
  ·
   go_upto_region 7 with (fail)
   obtain ⟨V1,hV1⟩:∃V1,V1=V.alloc (.cells #[.string nmA, .slice G l.length dd] 128):=⟨_,rfl⟩
   have g1:Gr V V1:=by rw[hV1];exact Gr.alloc (Gr.refl V) _
   have x0:V1.cell? ⟨V.heap.size,0,none⟩=some (.string nmA):=by rw[hV1];go_simp
   have x1:V1.cell? ⟨V.heap.size,1,none⟩=some (.slice G l.length dd):=by rw[hV1];go_simp
   have xf:V1.frozen? ⟨V.heap.size,1,none⟩=false:=by rw[hV1];go_simp
   have hx1:V.heap.size<V1.heap.size:=by rw[hV1];simp
   have e0c:=(Below.cell g1 (p:=⟨w.heap.size,0,none⟩) hz).trans c0
   have e2c:=(Below.cell g1 (p:=⟨w.heap.size,2,none⟩) hz).trans c2
   have e3c:=(Below.cell g1 (p:=⟨w.heap.size,3,none⟩) hz).trans c3
   have hz1:=Nat.lt_of_lt_of_le hz g1.size
   have HVV:=Lib.hid g1
   have hrs:Rd V1 1 G l.length (bys l):=HL.out.gr g1
   rw[←hV1]
   clear hV1 g1 c0 c1 c2 c3 f0 f1
   go_upto_region 8 with (fail)
   have own0:(V1.alloc (.cells #[] 5)).ownsRow V1.heap.size 5 1 (.slice (some ⟨V1.heap.size,0,none⟩) 0 0) 0 []:=World.ownsRow_made V1 #[] 0 (Nat.le_refl _) (by decide) rfl
   have hrs2:=Rd.gr hrs (Gr.alloc (Gr.refl V1) (.cells #[] 5))
   go_upto_region 9 with (at_builtin;refine wpList_append_rd rfl (.tmp 32) (.tmp 34) 49 rfl V1.heap.size 5 j0 _ 1 1 Tryz.underlying49 hj0 hk0 hk1 hk2 rfl (by decide) _ 0 _ rfl own0 G l.length _ (bys l) rfl hrs2 (bys_one _) (by unfold maxLen;omega) (by omega) (by simp) ?_;intro v9 W1 own9 hgr9 hob9;rw[Nat.zero_add,List.nil_append] at own9;have H8:=Lib.hid (And.intro own9 (And.intro hgr9 hob9));have hvo9:=own_some own9 (by rcases hob9 with e|e<;>rw[e]<;>exact fun e=>by cases e);clear own9 hgr9 hob9)
   obtain ⟨g,e2,hv9,hge⟩:=hvo9
   subst hv9
   have HB0:Hid (Gr V1 W1):=Lib.hid ((Gr.alloc (Gr.refl V1) (.cells #[] 5)).grown H8.out.2.1 (fun k e=>by have e2:some V1.heap.size=some k:=e;injection e2 with e2;omega))
   have HGB:Hid (V1.heap.size≤g):=Lib.hid hge
   have HGB2:Hid (g<W1.heap.size):=Lib.hid (H8.out.1.lt g rfl).2
   have he2:=own_capU H8.out.1
   obtain ⟨rest,T,hgb⟩:=own_open H8.out.1
   clear own0 hrs hrs2 H8 hge
   have hoe:(o:Int)≤(e2:Int):=by omega
   have hoe2:o≤e2:=by omega
   have hsub:(l.length:Int)-(o:Int)=((l.length-o:Nat):Int):=by omega
   by_cases hcap:e2=o
   ·
    have HPOS:Hid (0<(bys m).length→False):=Lib.hid (fun h=>by rw[bys_length] at h;omega)
    refine wp_region_Z 6 (Gr V1) (by kernel_rfl) ?_
    obtain ⟨W2,hW2⟩:∃W2,W2=W1.drew:=⟨_,rfl⟩
    have hS1:Gr V1 W2:=by rw[hW2];exact Gr.drew HB0.out
    have hgb1:W2.heap[g]?=some (.cells (bys l++rest).toArray T (0,0)):=by rw[hW2];exact hgb
    rw[←hW2]
    clear hW2
    refine zu 0 rfl hS1 (fun W hS=>by go_simp;rfl) ?_
    refine zu 1 rfl hS1 (fun W hS=>by go_simp;rfl) ?_
    refine zu 2 rfl hS1 (fun W hS=>by have s2:=(Below.cell hS (p:=⟨w.heap.size,2,none⟩) hz1).trans e2c;go_simp;rfl) ?_
    refine zu 3 rfl hS1 (fun W hS=>by go_simp;rfl) ?_
    refine zu 4 rfl hS1 (fun W hS=>by go_simp;rfl) ?_
    refine zu 5 rfl hS1 (fun W hS=>by have s3:=(Below.cell hS (p:=⟨w.heap.size,3,none⟩) hz1).trans e3c;go_simp;rfl) ?_
    refine wpAnyZ_ready (rs:=[6]) (by kernel_rfl) (by simp) ?_
    refine AllReadyZ.cons (i:=6) rfl (by kernel_rfl) ?zx7 AllReadyZ.nil
    intro K hK
    simp only[List.getElem_toArray,List.getElem_cons_succ,List.getElem_cons_zero]
    refine wp_copy_splice (ops:= #[]) rfl (.tmp 39) (.tmp 41) 49 49 rfl 5 Tryz.underlying49 info_one _ A (l.length-o) _ m.length d rfl rfl g o (bys l++rest) T hgb1 (bys m) (by rw[bys_length,Nat.mul_one];exact (Nat.min_eq_left (by omega)).symm) (fun h=>(HPOS.out h).elim) (by rw[List.length_append,bys_length,bys_length];omega) (bys_one _) V1.heap.size V1 hS1 HGB.out ?_
    intro W3 hg3 hb3
    have hg4:W3.heap[g]?=some (.cells (bys (putB l o m)++rest).toArray T (0,0)):=by rw[←splice_bys rest hom];exact hg3.out
    have hS3:Gr V1 W3:=hb3
    have HG4:=Lib.hid hg4
    have HS3:=Lib.hid hS3
    clear hg3 hb3 hg4 hgb1 hS1
    refine hK.out _ _ (fun hnz=>?zs8) (fun _=>?zr8)
    case zs8=>exact absurd rfl hnz
    clear hK K
    try (simp only[Pu,List.getElem_toArray,List.getElem_cons_succ,List.getElem_cons_zero])
    refine wpAnyZ_done (by kernel_rfl) ?_ _
    have q0:=(Below.cell hS3 (p:=⟨V.heap.size,0,none⟩) hx1).trans x0
    have q1:=(Below.cell hS3 (p:=⟨V.heap.size,1,none⟩) hx1).trans x1
    have qf:=(Below.frozen hS3 (p:=⟨V.heap.size,1,none⟩) hx1).trans xf
    have k0:=(Below.cell hS3 (p:=⟨w.heap.size,0,none⟩) hz1).trans e0c
    have hqz:=Nat.lt_of_lt_of_le hx1 hS3.size
    have hgz:=(Array.getElem?_eq_some_iff.1 HG4.out).1
    have hwz:=Nat.lt_of_lt_of_le hz1 hS3.size
    clear hS3
    obtain ⟨W4,hW4⟩:∃W4,W4=W3.setCell ⟨V.heap.size,1,none⟩ (.slice (some ⟨g,0,none⟩) l.length o):=⟨_,rfl⟩
    have HW4:=Lib.hid hW4
    have y0:W4.cell? ⟨V.heap.size,0,none⟩=some (.string nmA):=by rw[hW4];exact (World.cell?_setCell_other _ ⟨V.heap.size,1,none⟩ ⟨V.heap.size,0,none⟩ _ (by first|(simp;done)|(simp;omega))).trans q0
    have y1:W4.cell? ⟨V.heap.size,1,none⟩=some (.slice (some ⟨g,0,none⟩) l.length o):=by rw[hW4];exact World.cell?_setCell_same' _ _ _ (by rw[q1];rfl)
    have y2:W4.cell? ⟨w.heap.size,0,none⟩=some (.int .i64 2):=by rw[hW4];exact (World.cell?_setCell_other _ ⟨V.heap.size,1,none⟩ ⟨w.heap.size,0,none⟩ _ (by first|(simp;done)|(simp;omega))).trans k0
    have HZ4:Hid (W4.heap.size=W3.heap.size):=Lib.hid (by rw[hW4];simp)
    have hq4:V.heap.size<W4.heap.size:=by rw[HZ4.out];exact hqz
    have hw4:w.heap.size<W4.heap.size:=by rw[HZ4.out];exact hwz
    have hg5:W4.heap[g]?=some (.cells (bys (putB l o m)++rest).toArray T (0,0)):=by rw[hW4];exact (Below.heap_setCell W3 ⟨V.heap.size,1,none⟩ _ g (by have:=HGB.out;simp only;omega)).trans HG4.out
    have HG5:=Lib.hid hg5
    have hS4:Gr V W4:=by rw[hW4];exact Gr.setCell (HVV.out.trans HS3.out) (Nat.le_refl _) _
    have HS4:=Lib.hid hS4
    clear hW4 hg5 hS4 k0
    go_upto_region 11 with (fail)
    rw[←HW4.out]
    clear q0 q1 qf
    go_upto_region 12 with (fail)
    have own0:W4.ownsRow V.heap.size 128 2 (.slice none 0 0) 0 []:=World.ownsRow_nil _ _ _ _
    have hrx:Rd (W4.alloc (.cells #[.string nmA, .slice (some ⟨g,0,none⟩) l.length o] 128)) 2 (some ⟨W4.heap.size,0,none⟩) 1 [.string nmA, .slice (some ⟨g,0,none⟩) l.length o]:=Rd.newU (W:=W4) (n:=1) (size:=2) rfl 128 [.string nmA, .slice (some ⟨g,0,none⟩) l.length o] rfl
    have own1:=own_grU own0 (Gr.alloc (Gr.refl W4) (.cells #[.string nmA, .slice (some ⟨g,0,none⟩) l.length o] 128))
    go_wp2_with (at_builtin;refine wpList_append_rd rfl (.tmp 53) (.tmp 55) 80 rfl V.heap.size 128 i0 _ 2 40 Tryz.underlying80 hi0 hy0 hy1 hy2 rfl (by decide) _ 0 _ rfl own1 (some ⟨W4.heap.size,0,none⟩) 1 _ [.string nmA, .slice (some ⟨g,0,none⟩) l.length o] rfl hrx (by intro u hu;simp at hu;rcases hu with rfl|rfl<;>rfl) (by unfold maxLen;omega) (by omega) (by first|(simp;done)|(simp;omega)) ?_;intro v9 w9 own9 hgr9 hob9;have H9:=Lib.hid (And.intro own9 hgr9);have hvo9:=own_form own9;clear own9 hgr9 hob9)
    obtain ⟨A9,c9,hv9⟩:=hvo9
    subst hv9
    go_roundw
    case rel=>
     obtain ⟨own9,hgr9⟩:=H9.out
     have hga:Gr W4 w9:=(Gr.alloc (Gr.refl W4) (.cells #[.string nmA, .slice (some ⟨g,0,none⟩) l.length o] 128)).grown hgr9 (fun k e=>by have e2:(none:Option Nat)=some k:=e;cases e2)
     rw[Nat.zero_add,List.nil_append] at own9
     obtain ⟨q,hq,hq1,hq2,hq3⟩:=own_blockU own9 (by decide)
     subst hq
     have hpl:=putB_len hom
     refine .inr ⟨by go_num,⟨q,c9,some ⟨g,0,none⟩,o,by first|rfl|(rw[Nat.zero_add]),own_capU own9,hq2,Nat.le_trans HG.out.size hq1,hq3 0 _ rfl,(hq3 1 _ rfl).trans (by rw[hpl]),by rw[hpl];omega,(block_rb HG5.out).gr hga,fun ad e=>?_⟩,HS4.out.trans hga⟩
     injection e with e
     subst e
     exact ⟨Nat.lt_of_lt_of_le (by rw[HZ4.out];exact hgz) hga.size,by have:=HGB.out;have:=HG.out.size;simp only;omega⟩
    case measure=>simp[intOf]
   ·
    have hcap2:¬e2≤o:=by omega
    have hcap3:o<e2:=by omega
    refine wp_region_Z 6 (Gr V1) (by kernel_rfl) ?_
    obtain ⟨W2,hW2⟩:∃W2,W2=W1.drew:=⟨_,rfl⟩
    have hS1:Gr V1 W2:=by rw[hW2];exact Gr.drew HB0.out
    have hgb1:W2.heap[g]?=some (.cells (bys l++rest).toArray T (0,0)):=by rw[hW2];exact hgb
    rw[←hW2]
    clear hW2
    refine zu 0 rfl hS1 (fun W hS=>by go_simp;rfl) ?_
    refine zu 1 rfl hS1 (fun W hS=>by go_simp;rfl) ?_
    refine zu 2 rfl hS1 (fun W hS=>by have s2:=(Below.cell hS (p:=⟨w.heap.size,2,none⟩) hz1).trans e2c;go_simp;rfl) ?_
    refine zu 3 rfl hS1 (fun W hS=>by go_simp;rfl) ?_
    refine zu 4 rfl hS1 (fun W hS=>by go_simp;rfl) ?_
    refine zu 5 rfl hS1 (fun W hS=>by have s3:=(Below.cell hS (p:=⟨w.heap.size,3,none⟩) hz1).trans e3c;go_simp;rfl) ?_
    refine wpAnyZ_ready (rs:=[6]) (by kernel_rfl) (by simp) ?_
    refine AllReadyZ.cons (i:=6) rfl (by kernel_rfl) ?zx15 AllReadyZ.nil
    intro K hK
    simp only[List.getElem_toArray,List.getElem_cons_succ,List.getElem_cons_zero]
    refine wp_copy_splice (ops:= #[]) rfl (.tmp 39) (.tmp 41) 49 49 rfl 5 Tryz.underlying49 info_one _ A (l.length-o) _ m.length d rfl rfl g o (bys l++rest) T hgb1 (bys m) (by rw[bys_length,Nat.mul_one];exact (Nat.min_eq_left (by omega)).symm) (fun h=>by rw[bys_length] at h;obtain ⟨ad,e,hb,hcl⟩:=HR.out.2 (by omega);exact ⟨rfl,ad,e,fun j v hv=>(Below.cell (HVV.out.trans hS1) (p:=ad.add j) (by rw[add_blk];exact hb)).trans (hcl j v hv)⟩) (by rw[List.length_append,bys_length,bys_length];omega) (bys_one _) V1.heap.size V1 hS1 HGB.out ?_
    intro W3 hg3 hb3
    have hg4:W3.heap[g]?=some (.cells (bys (putB l o m)++rest).toArray T (0,0)):=by rw[←splice_bys rest hom];exact hg3.out
    have hS3:Gr V1 W3:=hb3
    have HG4:=Lib.hid hg4
    have HS3:=Lib.hid hS3
    clear hg3 hb3 hg4 hgb1 hS1
    refine hK.out _ _ (fun hnz=>?zs16) (fun _=>?zr16)
    case zs16=>exact absurd rfl hnz
    clear hK K
    try (simp only[Pu,List.getElem_toArray,List.getElem_cons_succ,List.getElem_cons_zero])
    refine wpAnyZ_done (by kernel_rfl) ?_ _
    have q0:=(Below.cell hS3 (p:=⟨V.heap.size,0,none⟩) hx1).trans x0
    have q1:=(Below.cell hS3 (p:=⟨V.heap.size,1,none⟩) hx1).trans x1
    have qf:=(Below.frozen hS3 (p:=⟨V.heap.size,1,none⟩) hx1).trans xf
    have k0:=(Below.cell hS3 (p:=⟨w.heap.size,0,none⟩) hz1).trans e0c
    have hqz:=Nat.lt_of_lt_of_le hx1 hS3.size
    have hgz:=(Array.getElem?_eq_some_iff.1 HG4.out).1
    have hwz:=Nat.lt_of_lt_of_le hz1 hS3.size
    clear hS3
    obtain ⟨W4,hW4⟩:∃W4,W4=W3.setCell ⟨V.heap.size,1,none⟩ (.slice (some ⟨g,0,none⟩) l.length e2):=⟨_,rfl⟩
    have HW4:=Lib.hid hW4
    have y0:W4.cell? ⟨V.heap.size,0,none⟩=some (.string nmA):=by rw[hW4];exact (World.cell?_setCell_other _ ⟨V.heap.size,1,none⟩ ⟨V.heap.size,0,none⟩ _ (by first|(simp;done)|(simp;omega))).trans q0
    have y1:W4.cell? ⟨V.heap.size,1,none⟩=some (.slice (some ⟨g,0,none⟩) l.length e2):=by rw[hW4];exact World.cell?_setCell_same' _ _ _ (by rw[q1];rfl)
    have y2:W4.cell? ⟨w.heap.size,0,none⟩=some (.int .i64 2):=by rw[hW4];exact (World.cell?_setCell_other _ ⟨V.heap.size,1,none⟩ ⟨w.heap.size,0,none⟩ _ (by first|(simp;done)|(simp;omega))).trans k0
    have HZ4:Hid (W4.heap.size=W3.heap.size):=Lib.hid (by rw[hW4];simp)
    have hq4:V.heap.size<W4.heap.size:=by rw[HZ4.out];exact hqz
    have hw4:w.heap.size<W4.heap.size:=by rw[HZ4.out];exact hwz
    have hg5:W4.heap[g]?=some (.cells (bys (putB l o m)++rest).toArray T (0,0)):=by rw[hW4];exact (Below.heap_setCell W3 ⟨V.heap.size,1,none⟩ _ g (by have:=HGB.out;simp only;omega)).trans HG4.out
    have HG5:=Lib.hid hg5
    have hS4:Gr V W4:=by rw[hW4];exact Gr.setCell (HVV.out.trans HS3.out) (Nat.le_refl _) _
    have HS4:=Lib.hid hS4
    clear hW4 hg5 hS4 k0
    go_upto_region 11 with (fail)
    rw[←HW4.out]
    clear q0 q1 qf
    go_upto_region 12 with (fail)
    have own0:W4.ownsRow V.heap.size 128 2 (.slice none 0 0) 0 []:=World.ownsRow_nil _ _ _ _
    have hrx:Rd (W4.alloc (.cells #[.string nmA, .slice (some ⟨g,0,none⟩) l.length e2] 128)) 2 (some ⟨W4.heap.size,0,none⟩) 1 [.string nmA, .slice (some ⟨g,0,none⟩) l.length e2]:=Rd.newU (W:=W4) (n:=1) (size:=2) rfl 128 [.string nmA, .slice (some ⟨g,0,none⟩) l.length e2] rfl
    have own1:=own_grU own0 (Gr.alloc (Gr.refl W4) (.cells #[.string nmA, .slice (some ⟨g,0,none⟩) l.length e2] 128))
    go_wp2_with (at_builtin;refine wpList_append_rd rfl (.tmp 53) (.tmp 55) 80 rfl V.heap.size 128 i0 _ 2 40 Tryz.underlying80 hi0 hy0 hy1 hy2 rfl (by decide) _ 0 _ rfl own1 (some ⟨W4.heap.size,0,none⟩) 1 _ [.string nmA, .slice (some ⟨g,0,none⟩) l.length e2] rfl hrx (by intro u hu;simp at hu;rcases hu with rfl|rfl<;>rfl) (by unfold maxLen;omega) (by omega) (by first|(simp;done)|(simp;omega)) ?_;intro v9 w9 own9 hgr9 hob9;have H9:=Lib.hid (And.intro own9 hgr9);have hvo9:=own_form own9;clear own9 hgr9 hob9)
    obtain ⟨A9,c9,hv9⟩:=hvo9
    subst hv9
    go_roundw
    case rel=>
     obtain ⟨own9,hgr9⟩:=H9.out
     have hga:Gr W4 w9:=(Gr.alloc (Gr.refl W4) (.cells #[.string nmA, .slice (some ⟨g,0,none⟩) l.length e2] 128)).grown hgr9 (fun k e=>by have e2:(none:Option Nat)=some k:=e;cases e2)
     rw[Nat.zero_add,List.nil_append] at own9
     obtain ⟨q,hq,hq1,hq2,hq3⟩:=own_blockU own9 (by decide)
     subst hq
     have hpl:=putB_len hom
     refine .inr ⟨by go_num,⟨q,c9,some ⟨g,0,none⟩,e2,by first|rfl|(rw[Nat.zero_add]),own_capU own9,hq2,Nat.le_trans HG.out.size hq1,hq3 0 _ rfl,(hq3 1 _ rfl).trans (by rw[hpl]),by rw[hpl];omega,(block_rb HG5.out).gr hga,fun ad e=>?_⟩,HS4.out.trans hga⟩
     injection e with e
     subst e
     exact ⟨Nat.lt_of_lt_of_le (by rw[HZ4.out];exact hgz) hga.size,by have:=HGB.out;have:=HG.out.size;simp only;omega⟩
    case measure=>simp[intOf]
  ·
   have HF:=Lib.hid (And.intro hfl hgr)
   have hA:∃q c9,u6= .slice (some ⟨q,0,none⟩) 1 c9:=by obtain ⟨q,c9,G,d,e, -⟩:=hfl;exact ⟨q,c9,e⟩
   obtain ⟨q,c9,hu⟩:=hA
   subst hu
   have cc0:=(Below.cell hgr (p:=⟨w.heap.size,0,none⟩) hz).trans c0
   clear hfl hgr
   go_wp2
   go_ret
   exact ⟨_,rfl,HF.out.1,HG.out.trans HF.out.2⟩
end Go.Proofs.YtoncapkmaeghfaaGreat
