import Derived.Test.YtoncapkmaeghfaaRunWiGat
import Derived.Test.YtoncapkmaeghfaaRunVfFs
import Derived.Shelf.SlMaps.Clone
set_option linter.all false
set_option maxRecDepth 1000000
set_option maxHeartbeats 12800000
namespace Go.Proofs.Ytoncapkmaeghfaa
open Go.RowKit
def arN (m:Arcs):Nat→List Nat
 | 0=>[]
 | k+1=>arN m k++archN m k
theorem arN_len (m:Arcs):∀k,(arN m k).length=3*k
 | 0=>rfl
 | k+1=>by rw[arN,List.length_append,arN_len m k];rfl
theorem archsB_four (m:Arcs):∀k,archsB m k=fourS (arN m k)
 | 0=>rfl
 | k+1=>by rw[arN,fourS_app,←archsB_four m k];rfl
theorem arN_at (m:Arcs) (k i j:Nat) (hj:j<k) (hi:i<3) (d:Nat):(arN m k).getD (3*j+i) d=(archN m j).getD i d:=by
 induction k with
 | zero=>omega
 | succ k ih=>
  rw[arN,List.getD_eq_getElem?_getD,List.getD_eq_getElem?_getD]
  rcases Nat.lt_or_ge j k with h|h
  ·
   rw[List.getElem?_append_left (by rw[arN_len];omega),←List.getD_eq_getElem?_getD,ih h,List.getD_eq_getElem?_getD]
  ·
   obtain rfl:j=k:=by omega
   rw[List.getElem?_append_right (by rw[arN_len];omega),arN_len]
   congr 2
   omega
def numsH (ag xf:Nat) (m:Arcs):List Nat:=headN ag xf m++arN m m.length
theorem hdrS_four (ag xf:Nat) (m:Arcs):hdrS ag xf m=fourS (numsH ag xf m):=by unfold hdrS numsH;rw[fourS_app,archsB_four]
theorem numsH_len (ag xf:Nat) (m:Arcs):(numsH ag xf m).length=4+3*m.length:=by unfold numsH;rw[List.length_append,arN_len];rfl
theorem numAt_four (l:List Nat) (r:List UInt8) (j:Nat) (hj:j<l.length) (hb:l.getD j 0<4294967296):numAt (fourS l++r) j=l.getD j 0:=by
 have hl:l=l.take j++(l.getD j 0::l.drop (j+1)):=by
  rw[List.getD_eq_getElem?_getD,List.getElem?_eq_getElem hj,Option.getD_some,←List.drop_eq_getElem_cons hj,List.take_append_drop]
 unfold numAt
 rw[if_pos (by rw[List.length_append,fourS_len];omega)]
 have e:fourS l++r=fourS (l.take j)++(beB (l.getD j 0) 4++(fourS (l.drop (j+1))++r)):=by
  conv=>lhs;rw[hl]
  rw[fourS_app]
  simp only[fourS,List.flatMap_cons,List.append_assoc]
 rw[e,List.drop_left' (by rw[fourS_len,List.length_take];omega),List.take_left' (beB_len _ _),ofB_beB]
 exact Nat.mod_eq_of_lt hb
theorem numsH_at (ag xf:Nat) (m:Arcs) (i:Nat) (hi:i<4):(numsH ag xf m).getD i 0=(headN ag xf m).getD i 0:=by
 unfold numsH
 rw[List.getD_eq_getElem?_getD,List.getD_eq_getElem?_getD,List.getElem?_append_left (show i<(headN ag xf m).length from hi)]
theorem numsH_arc (ag xf:Nat) (m:Arcs) (i j:Nat) (hj:j<m.length) (hi:i<3):(numsH ag xf m).getD (4+3*j+i) 0=(archN m j).getD i 0:=by
 rw[←arN_at m m.length i j hj hi 0]
 unfold numsH
 rw[List.getD_eq_getElem?_getD,List.getD_eq_getElem?_getD,List.getElem?_append_right (show (headN ag xf m).length≤_ by show 4≤_;omega)]
 congr 2
 show 4+3*j+i-4=_
 omega
def HdOk (ag xf:Nat) (m:Arcs) (D:List UInt8):Prop:=D.length=sizeS m∧∃r,D=hdrS ag xf m++r
theorem opS_hdr {ag xf:Nat} {m:Arcs} {D:List UInt8} (hM:mayH ag xf (ints m)=true) (h:HdOk ag xf m D):opS D=some (ag,xf,m):=by
 obtain ⟨hl,r,hr⟩:=h
 have hF:=MayF.ofH hM
 have hM2:=hM
 unfold mayH at hM2
 rw[Bool.and_eq_true,decide_eq_true_eq] at hM2
 have hD:D=fourS (numsH ag xf m)++r:=by rw[hr,hdrS_four]
 have hsp:(lastS m).1*(lastS m).2≤4294967295:=hF.last
 have hn:∀i,i<4→(headN ag xf m).getD i 0<4294967296→numAt D i=(headN ag xf m).getD i 0:=fun i hi hb=>by
  rw[hD,numAt_four _ _ _ (by rw[numsH_len];omega) (by rw[numsH_at _ _ _ _ hi];exact hb),numsH_at _ _ _ _ hi]
 have n0:numAt D 0=ag:=hn 0 (by decide) (by show ag<_;omega)
 have n2:numAt D 2=xf:=hn 2 (by decide) (by show xf<_;omega)
 have n3:numAt D 3=m.length:=hn 3 (by decide) (by show m.length<_;have:=hF.l8;omega)
 have ha:∀k,k≤m.length→arcsAt D k=m.take k:=fun k=>by
  induction k with
  | zero=>intro _;rfl
  | succ k ih=>
   intro hk
   rw[arcsAt,ih (by omega),List.take_succ_eq_append_getElem (by omega)]
   congr 2
   have hs:=hF.s1 k (by omega)
   have hc:=hF.c1 k (by omega)
   have q1:numAt D (4+3*k+1)=stpS m k:=by
    rw[hD,numAt_four _ _ _ (by rw[numsH_len];omega) (by rw[numsH_arc _ _ _ _ _ (by omega) (by decide)];show stpS m k<_;omega),numsH_arc _ _ _ _ _ (by omega) (by decide)]
    rfl
   have q2:numAt D (4+3*k+2)=cntS m k:=by
    rw[hD,numAt_four _ _ _ (by rw[numsH_len];omega) (by rw[numsH_arc _ _ _ _ _ (by omega) (by decide)];show cntS m k<_;omega),numsH_arc _ _ _ _ _ (by omega) (by decide)]
    rfl
   unfold arcAt
   rw[q1,q2,stpS_at (by omega),cntS_at (by omega)]
 have ham:arcsAt D m.length=m:=by rw[ha _ (Nat.le_refl _),List.take_length]
 have hde:decH D=some (ag,xf,m):=by
  have:=decH_yes (L:=D) (by rw[n3,hr,List.length_append,hdrS_len];omega) (by rw[n0,n2,n3,ham];exact hM) (by rw[n0,n2,n3,ham,List.isPrefixOf_iff_prefix];exact ⟨r,hr.symm⟩)
  rw[n0,n2,n3,ham] at this
  exact this
 unfold opS
 rw[hde]
 simp only
 rw[if_pos hl.symm]
theorem atS_off {m:Arcs} (i:Nat) (t:Int):16+12*m.length≤atS m i t:=by unfold atS offS;omega
theorem HdOk.lay {ag xf:Nat} {m:Arcs} {D:List UInt8} (h:HdOk ag xf m D) (hF:MayF m) {i:Nat} (hi:i<m.length) (t n:Int):HdOk ag xf m (layS m D i t n):=by
 refine ⟨layS_len hF h.1 hi t n,?_⟩
 obtain ⟨hl,r,hr⟩:=h
 have ho:=atS_off (m:=m) i t
 have hh:=hdrS_len ag xf m
 refine ⟨(layS m D i t n).drop (16+12*m.length),?_⟩
 conv=>lhs;rw[←List.take_append_drop (16+12*m.length) (layS m D i t n)]
 congr 1
 unfold layS putB
 rw[List.take_append_of_le_length (by rw[List.length_take];have:=(atS_in hF hi t).2;omega),List.take_take,Nat.min_eq_left ho,hr]
 exact List.take_left' hh
theorem HdOk.up {ag xf:Nat} {m:Arcs} (hF:MayF m) {a x t:Int}:∀(k i:Nat) (D:List UInt8),i+k=m.length→HdOk ag xf m D→HdOk ag xf m (upS a x m t i k D)
 | 0,_,_,_,h=>h
 | k+1,i,D,hk,h=>by
  rw[upS]
  cases e:gathS a x m D i t with
  | none=>exact h
  | some D'=>
   unfold gathS at e
   split at e
   ·
    injection e with e
    exact HdOk.up hF k (i+1) D' (by omega) (by rw[←e];exact h.lay hF (by omega) _ _)
   ·
    cases e
theorem HdOk.lays {ag xf:Nat} {m:Arcs} (hF:MayF m) {a x:Int} {D D':List UInt8} (h:HdOk ag xf m D) {t n now:Int} (e:laysS a x m D t n now=some D'):HdOk ag xf m D':=by
 have hf:=firstS_le m t now
 unfold laysS at e
 split at e
 ·
  cases e
 ·
  split at e
  ·
   cases e
  ·
   split at e
   ·
    cases e
   ·
    injection e with e
    rw[←e]
    exact HdOk.up hF _ _ _ (by omega) (h.lay hF (by omega) _ _)
theorem HdOk.upd {ag xf:Nat} {m:Arcs} (hF:MayF m) {a x now:Int}:∀(l:List (Int×Int)) (s:Nat×List UInt8),HdOk ag xf m s.2→HdOk ag xf m (updS a x m now l s).2
 | [],_,h=>h
 | p::r,s,h=>by
  rw[updS]
  cases e:laysS a x m s.2 p.1 p.2 now with
  | none=>exact HdOk.upd hF r s h
  | some D=>exact HdOk.upd hF r _ (HdOk.lays hF h e)
def newS (ag xf:Nat) (m:Arcs):List UInt8:=hdrS ag xf m++List.replicate (sizeS m-(16+12*m.length)) 0
theorem newS_ok (ag xf:Nat) (m:Arcs):HdOk ag xf m (newS ag xf m):=by
 refine ⟨?_,_,rfl⟩
 unfold newS
 have:=sizeS_eq m
 rw[List.length_append,hdrS_len,List.length_replicate]
 omega
theorem putB_at (l d:List UInt8) (k j:Nat) (h:k+d.length≤l.length):(putB l k d)[j]?=if j<k then l[j]? else if j<k+d.length then d[j-k]? else l[j]?:=by
 unfold putB
 have e1:(l.take k).length=k:=by rw[List.length_take];omega
 by_cases h1:j<k
 ·
  rw[if_pos h1,List.getElem?_append_left (by omega),List.getElem?_take,if_pos h1]
 ·
  rw[if_neg h1,List.getElem?_append_right (by omega),e1]
  by_cases h2:j<k+d.length
  ·
   rw[if_pos h2,List.getElem?_append_left (by omega)]
  ·
   rw[if_neg h2,List.getElem?_append_right (by omega),List.getElem?_drop]
   congr 1
   omega
theorem slotS_at (l:List UInt8) (k j:Nat):(slotS l k)[j]?=if j<12 then l[k+j]? else none:=by
 unfold slotS
 rw[List.getElem?_take,List.getElem?_drop]
theorem slot_same {D:List UInt8} {k:Nat} {d:List UInt8} (hd:d.length=12) (h:k+12≤D.length):slotS (putB D k d) k=d:=by
 apply List.ext_getElem?
 intro j
 rw[slotS_at]
 by_cases hj:j<12
 ·
  rw[if_pos hj,putB_at _ _ _ _ (by omega),if_neg (by omega),if_pos (by omega)]
  congr 1
  omega
 ·
  rw[if_neg hj,List.getElem?_eq_none (by omega)]
theorem slot_other {D:List UInt8} {k k':Nat} {d:List UInt8} (hd:d.length=12) (h:k+12≤D.length) (hk:k'+12≤k∨k+12≤k'):slotS (putB D k d) k'=slotS D k':=by
 apply List.ext_getElem?
 intro j
 rw[slotS_at,slotS_at]
 by_cases hj:j<12
 ·
  rw[if_pos hj,if_pos hj,putB_at _ _ _ _ (by omega)]
  by_cases h1:k'+j<k
  ·
   rw[if_pos h1]
  ·
   rw[if_neg h1,if_neg (by omega)]
 ·
  rw[if_neg hj,if_neg hj]
def pS (m:Arcs) (i:Nat) (t:Int):Nat:=(placeS (stpS m i) (cntS m i) t).toNat
theorem atS_eq (m:Arcs) (i:Nat) (t:Int):atS m i t=offS m i+12*pS m i t:=rfl
theorem atS_apart {m:Arcs} (hF:MayF m) {i i':Nat} (hi:i<m.length) (hi':i'<m.length) {t t':Int} (h:i≠i'∨pS m i t≠pS m i' t'):atS m i' t'+12≤atS m i t∨atS m i t+12≤atS m i' t':=by
 have p1:=placeS_nat (hF.c1 i hi).1 t
 have p2:=placeS_nat (hF.c1 i' hi').1 t'
 have o1:=offS_succ hi
 have o2:=offS_succ hi'
 rw[←cntS_at hi] at o1
 rw[←cntS_at hi'] at o2
 have e1:=atS_eq m i t
 have e2:=atS_eq m i' t'
 change pS m i t<cntS m i at p1
 change pS m i' t'<cntS m i' at p2
 rcases Nat.lt_trichotomy i i' with hlt|heq|hgt
 ·
  right
  have:=offS_mono (m:=m) (i:=i+1) (j:=i') hlt (Nat.le_of_lt hi')
  omega
 ·
  subst heq
  have:pS m i t≠pS m i t':=h.resolve_left (fun e=>e rfl)
  omega
 ·
  left
  have:=offS_mono (m:=m) (i:=i'+1) (j:=i) hgt (Nat.le_of_lt hi)
  omega
theorem seen_same {m:Arcs} (hF:MayF m) {D:List UInt8} (hD:D.length=sizeS m) {i:Nat} (hi:i<m.length) {t n:Int} (h0:0≤t) (h1:t≤4294967295) (hn: -9223372036854775808≤n) (hn':n≤9223372036854775807):seenS m (layS m D i t n) i t=ofV n:=by
 unfold seenS layS
 have h:=(atS_in hF hi t).2
 rw[slot_same (encP_len t n) (by omega),decT_enc,decN_enc t n hn hn',if_pos (by unfold at4;omega)]
theorem seen_other {m:Arcs} (hF:MayF m) {D:List UInt8} (hD:D.length=sizeS m) {i i':Nat} (hi:i<m.length) (hi':i'<m.length) {t t' n:Int} (h:i≠i'∨pS m i t≠pS m i' t'):seenS m (layS m D i t n) i' t'=seenS m D i' t':=by
 unfold seenS layS
 have h1:=(atS_in hF hi t).2
 rw[slot_other (encP_len t n) (by omega) (by have:=atS_apart hF hi hi' h;omega)]
section
open Go.RowKit Go.ChangeMaps Go.Maps
theorem mapclone_any (b:Nat) (es:Array MapEntry) (clock:Nat) (w:World) (hb:w.heap[b]?=some (.map es clock)) :
  Calls Try.prog 41 #[.map (some b)] w fun e w'=>e= .returned (.map (some w.heap.size))∧w'=w.alloc (.map es clock):=by
 have hq:=fun w=>run_eql_map_nil_sl (P:=Try.prog) w 60 _ _ (some b) Try.underlying60
 go_enter Try.func41,Try.ntmps41
 go_wp2
 rw[run_callFunc_extern Try.func53 (by kernel_rfl) (by kernel_rfl) (by kernel_rfl) (e:=Extern.MapsClone.clone) (by kernel_rfl),run_maps_clone_sl w 60 hb]
 simp only[Result.andThen]
 rw[Oper.upon_value]
 go_wp2
 rw[run_typeAssert_map_sl _ 60 _ _ _ _ Try.underlying60]
 simp only[Result.andThen]
 rw[Oper.upon_value]
 go_wp2
 go_ret
 exact ⟨rfl,rfl⟩
end
section
open Go.RowKit Go.ChangeMaps Go.Maps
theorem FsM.synced {w:World} {Y:Nat→Prop} {F P M:Nat} {R:Option Nat} {room:Int} {n:Nat} {D:Option (List UInt8)} (h:FsM Y w F P M R room n D) (y:Value):FsM Y ((w.setCell ⟨P,1,none⟩ y).setCell ⟨P,0,none⟩ (.slice none 0 0)) F P M none room 0 D∧Kp (fun k=>k=P) w ((w.setCell ⟨P,1,none⟩ y).setCell ⟨P,0,none⟩ (.slice none 0 0)):=by
 have k:Kp (fun k=>k=P) w ((w.setCell ⟨P,1,none⟩ y).setCell ⟨P,0,none⟩ (.slice none 0 0)):=((Kp.refl (fun k=>k=P) _).set (p:=⟨P,1,none⟩) (.inl (show P=P from rfl)) _).set (p:=⟨P,0,none⟩) (.inl (show P=P from rfl)) _
 obtain ⟨v,xs,v1,v2,v3⟩:=h.p0
 obtain ⟨y0,hy⟩:=h.p1
 have q0:((w.setCell ⟨P,1,none⟩ y).setCell ⟨P,0,none⟩ (.slice none 0 0)).cell? ⟨P,0,none⟩=some (.slice none 0 0):=World.cell?_setCell_same' _ _ _ (by rw[World.cell?_setCell_other w ⟨P,1,none⟩ ⟨P,0,none⟩ _ (by first|(simp;done)|(simp;omega)),v1];rfl)
 have q1:((w.setCell ⟨P,1,none⟩ y).setCell ⟨P,0,none⟩ (.slice none 0 0)).cell? ⟨P,1,none⟩=some y:=(World.cell?_setCell_other _ ⟨P,0,none⟩ ⟨P,1,none⟩ _ (by first|(simp;done)|(simp;omega))).trans (World.cell?_setCell_same' _ _ _ (by rw[hy];rfl))
 refine ⟨⟨Nat.lt_of_lt_of_le h.lf k.size,Nat.lt_of_lt_of_le h.lp k.size,Nat.lt_of_lt_of_le h.lm k.size,h.nfp,h.nfm,h.npm,(k.cell (a:=⟨F,0,none⟩) h.lf h.nfp).trans h.f0,(k.cell (a:=⟨F,1,none⟩) h.lf h.nfp).trans h.f1,(k.cell (a:=⟨F,2,none⟩) h.lf h.nfp).trans h.f2,
  ⟨.slice none 0 0,[],q0,rfl,World.ownsRow_nil _ _ _ _⟩,⟨y,q1⟩,by rw[World.frozen?_setCell,World.frozen?_setCell];exact h.z0,by rw[World.frozen?_setCell,World.frozen?_setCell];exact h.z1,(fun _ e=>by cases e),fun i hi=>Nat.lt_of_lt_of_le (h.yl i hi) k.size,?_⟩,k⟩
 have hM:¬M=P:=fun e=>h.npm e.symm
 cases D with
 | none=>
  obtain ⟨clk,hb⟩:=h.mp
  exact ⟨clk,(k.block M h.lm hM).trans hb⟩
 | some l=>
  obtain ⟨clk,born,g,c,hb,hc,hr,hg,hq⟩:=h.mp
  exact ⟨clk,born,g,c,(k.block M h.lm hM).trans hb,hc,k.rd hr (fun _ ad e=>by injection e with e;rw[←e];exact hq.1),Nat.lt_of_lt_of_le hg k.size,hq.1,hq.2.1,(fun e=>by cases e),hq.2.2.2⟩
theorem FsM.map {w:World} {Y:Nat→Prop} {F P M:Nat} {R:Option Nat} {room:Int} {n:Nat} {D:Option (List UInt8)} (h:FsM Y w F P M R room n D):∃es clk,w.heap[M]?=some (.map es clk):=by
 cases D with
 | none=>obtain ⟨clk,hb⟩:=h.mp;exact ⟨_,clk,hb⟩
 | some l=>obtain ⟨clk,born,g,c,hb, -⟩:=h.mp;exact ⟨_,clk,hb⟩
def FlS (F P M:Nat) (W:World):Prop:=W.cell? ⟨F,0,none⟩=some (.pointer (some ⟨P,0,none⟩))∧W.cell? ⟨F,2,none⟩=some (.map (some M))
theorem sync_any {Y:Nat→Prop} {F P M:Nat} {R:Option Nat} {room:Int} {n:Nat} {D:Option (List UInt8)} (w:World) (h:FsM Y w F P M R room n D):Calls Try.prog 23 #[.pointer (some ⟨F,0,none⟩)] w fun e w'=>e= .returned (.tuple #[])∧FsM Y w' F P M none room 0 D∧Kp (fun k=>k=P) w w':=by
 have H0:=Lib.hid h
 clear h
 go_enter Try.func23,Try.ntmps23
 go_upto_region 1 with (fail)
 refine wp_region_Z 18 (FlS F P M) (by kernel_rfl) ?_
 have hd:Gr w w.drew:=Gr.drew (Gr.refl _)
 obtain ⟨W0,hW0⟩:∃W0,W0=w.drew:=⟨_,rfl⟩
 rw[←hW0] at hd ⊢
 clear hW0
 have H1:=Lib.hid (H0.out.gr hd)
 have hS0:FlS F P M W0:=⟨H1.out.f0,H1.out.f2⟩
 have HD:=Lib.hid hd
 clear hd
 refine zu 0 rfl hS0 (fun W hS=>by go_simp;rfl) ?_
 refine zu 1 rfl hS0 (fun W hS=>by go_simp;rfl) ?_
 refine zu 2 rfl hS0 (fun W hS=>by go_simp;rfl) ?_
 refine zu 3 rfl hS0 (fun W hS=>by have s0:=hS.1;go_simp;rfl) ?_
 refine zu 4 rfl hS0 (fun W hS=>by go_simp;rfl) ?_
 refine zu 5 rfl hS0 (fun W hS=>by go_simp;rfl) ?_
 refine zu 6 rfl hS0 (fun W hS=>by go_simp;rfl) ?_
 refine zu 7 rfl hS0 (fun W hS=>by have s0:=hS.1;go_simp;rfl) ?_
 refine zu 8 rfl hS0 (fun W hS=>by go_simp;rfl) ?_
 refine zu 9 rfl hS0 (fun W hS=>by go_simp;rfl) ?_
 refine zu 10 rfl hS0 (fun W hS=>by go_simp;rfl) ?_
 refine zu 11 rfl hS0 (fun W hS=>by have s2:=hS.2;go_simp;rfl) ?_
 refine wpAnyZ_ready (rs:=[12]) (by kernel_rfl) (by simp) ?_
 refine AllReadyZ.cons (i:=12) rfl (by kernel_rfl) ?zx1 AllReadyZ.nil
 intro K hK
 simp only[List.getElem_toArray,List.getElem_cons_succ,List.getElem_cons_zero]
 go_simp
 obtain ⟨es,clk,hb⟩:=H1.out.map
 refine (mapclone_any M es clk _ hb).mono ?_;rintro x W1 ⟨rfl,hW1⟩
 have g1:Gr W0 W1:=by rw[hW1];exact Gr.alloc (Gr.refl _) _
 have H2:=Lib.hid (H1.out.gr g1)
 have HG:=Lib.hid (HD.out.trans g1)
 have hS1:FlS F P M W1:=⟨H2.out.f0,H2.out.f2⟩
 clear hW1 g1 hb hS0
 go_wp2_with fail
 refine hK.out _ _ (fun hnz=>?zs2) (fun _=>?zr3)
 case zs2=>exact hS1
 clear hK K
 try (simp only[Pu,List.getElem_toArray,List.getElem_cons_succ,List.getElem_cons_zero])
 refine zu 13 rfl hS1 (fun W hS=>by go_simp;rfl) ?_
 refine zu 14 rfl hS1 (fun W hS=>by go_simp;rfl) ?_
 refine wpAnyZ_ready (rs:=[15]) (by kernel_rfl) (by simp) ?_
 refine AllReadyZ.cons (i:=15) rfl (by kernel_rfl) ?zx4 AllReadyZ.nil
 intro K hK
 simp only[List.getElem_toArray,List.getElem_cons_succ,List.getElem_cons_zero]
 obtain ⟨y0,p1⟩:=H2.out.p1
 have z1:=H2.out.z1
 go_simp
 have hS2:FlS F P M (W1.setCell ⟨P,1,none⟩ (.map (some W0.heap.size))):=⟨(World.cell?_setCell_far W1 ⟨P,1,none⟩ ⟨F,0,none⟩ _ (fun e=>H2.out.nfp e.symm)).trans hS1.1,(World.cell?_setCell_far W1 ⟨P,1,none⟩ ⟨F,2,none⟩ _ (fun e=>H2.out.nfp e.symm)).trans hS1.2⟩
 refine hK.out _ _ (fun hnz=>?zs5) (fun _=>?zr6)
 case zs5=>exact hS2
 clear hK K
 try (simp only[Pu,List.getElem_toArray,List.getElem_cons_succ,List.getElem_cons_zero])
 refine zu 16 rfl hS2 (fun W hS=>by go_simp;rfl) ?_
 refine zu 17 rfl hS2 (fun W hS=>by go_simp;rfl) ?_
 refine wpAnyZ_ready (rs:=[18]) (by kernel_rfl) (by simp) ?_
 refine AllReadyZ.cons (i:=18) rfl (by kernel_rfl) ?zx7 AllReadyZ.nil
 intro K hK
 simp only[List.getElem_toArray,List.getElem_cons_succ,List.getElem_cons_zero]
 obtain ⟨v,xs,v1, -, -⟩:=H2.out.p0
 have q0:(W1.setCell ⟨P,1,none⟩ (.map (some W0.heap.size))).cell? ⟨P,0,none⟩=some v:=(World.cell?_setCell_other W1 ⟨P,1,none⟩ ⟨P,0,none⟩ _ (by first|(simp;done)|(simp;omega))).trans v1
 have z0:(W1.setCell ⟨P,1,none⟩ (.map (some W0.heap.size))).frozen? ⟨P,0,none⟩=false:=by rw[World.frozen?_setCell];exact H2.out.z0
 have HY:=Lib.hid (H2.out.synced (.map (some W0.heap.size)))
 go_simp
 refine hK.out _ _ (fun hnz=>?zs8) (fun _=>?zr9)
 case zs8=>exact absurd rfl hnz
 clear hK K
 try (simp only[Pu,List.getElem_toArray,List.getElem_cons_succ,List.getElem_cons_zero])
 refine wpAnyZ_done (by kernel_rfl) ?_ _
 go_wp2
 go_end0
 exact ⟨rfl,HY.out.1,(Kp.of_gr _ HG.out).trans HY.out.2 (fun _ _ h=>h)⟩
end
theorem FsM.weak {Y:Nat→Prop} {w:World} {F P M:Nat} {R:Option Nat} {room:Int} {n:Nat} {D:Option (List UInt8)} (h:FsM Y w F P M R room n D):FsM (fun _=>False) w F P M R room n D:=
 h.more (Gr.refl w) (fun _ e=>e.elim) (fun _ e=>e.elim)
theorem wupdate_any {Y:Nat→Prop} {F P M:Nat} {R:Option Nat} {room:Int} {n:Nat} {D:List UInt8} {ag xf:Nat} {m:Arcs} (hD:(D.length:Int)≤1073741824) (ho:opS D=some (ag,xf,m)) (now:Int) (hnow1:1≤now) (hnow2:now≤4294967295) (A:Option Addr) (c:Nat) (L:List (Int×Int)) (hL:L.length≤1000) (hn:n≤900000) (w:World) (h:FsM Y w F P M R room n (some D)) (hr:Ri w A L) (hA:∀ad,A=some ad→¬Tch P M R ad.block) :
  Calls Try.prog 10 #[.pointer (some ⟨F,0,none⟩), .string nmA, .int .i64 now, .slice A L.length c] w fun e w'=>e= .returned (.tuple #[.int .i64 ((updS ag xf m now L (0,D)).1:Nat), .int .i64 0])∧FsM (fun _=>False) w' F P M none room 0 (some (updS ag xf m now L (0,D)).2)∧Kp (Tch P M R) w w':=by
 have HOP:=Lib.hid (open_any D hD w h)
 have HOD:=Lib.hid ho
 have H0:=Lib.hid h
 have HNW:Hid ((decide (1≤now)&&decide (now≤4294967295))=true):=Lib.hid (by rw[decide_eq_true hnow1,decide_eq_true hnow2];rfl)
 obtain ⟨U,hU⟩:∃U,U=updS ag xf m now L (0,D):=⟨_,rfl⟩
 rw[←hU]
 have HU:=Lib.hid hU
 have HR:=Lib.hid (And.intro hr hA)
 have hLi:(L.length:Int)≤1000:=by omega
 clear h hD ho hU hr hA
 go_enter Try.func10,Try.ntmps10
 go_wp2_with (first|(go_at_call 24;refine HOP.out.mono ?_;rintro e w1 ⟨g1,h1⟩;rw[HOD.out] at h1;obtain ⟨X,b,cc,g,d,rfl,hfi,hgw⟩:=h1;have H1:=Lib.hid (And.intro g1 (And.intro hfi hgw));clear g1 hfi hgw)|(go_at_call 25;refine (isNow_any now _).mono ?_;rintro e w2 ⟨rfl,rfl⟩;rw[HNW.out]))
 go_loopw [12,29] (fun nn j wr=>∃(q kq:Nat) (Rq:Option Nat) (nq:Nat) (Dq:List UInt8),q≤L.length∧j= .int .i64 q∧nn= .int .i64 kq∧kq≤q∧nq≤n+27*q∧FiM wr X F P M Rq room nq ag xf b cc m g d Dq∧Kp (Tcg P M R g) w1 wr∧(∀z,Rq=some z→R=some z∨w1.heap.size≤z)∧Hid (U=updS ag xf m now (L.drop q) (kq,Dq))) (fun _ j _=>L.length-(intOf j).toNat)
 case atStart=>exact ⟨0,0,R,n,D,Nat.zero_le _,rfl,rfl,Nat.le_refl _,by omega,H1.out.2.1,Kp.refl _ _,fun _ e=> .inl e,Lib.hid (by rw[List.drop_zero];exact HU.out)⟩
 case round=>
  obtain ⟨q,kq,Rq,nq,Dq,hq,rfl,rfl,hkq,hnq,hfi,hkp,hRq,HUP⟩:=hrel
  by_cases hlt:q<L.length
  ·
   have hlti:(q:Int)<(L.length:Int):=by omega
   obtain ⟨pb,rfl,hpb,hcs⟩:=HR.out.1 (by omega)
   have hnT:∀z,¬Tcg P M R g (pb.add z).block:=fun z e=>by
    rw[adB] at e
    rcases e with e|e
    ·
     exact HR.out.2 _ rfl e
    ·
     have:=H1.out.2.2;omega
   have hpz:∀z,(pb.add z).block<w.heap.size:=fun z=>by rw[adB];exact hpb
   have hp1:∀z,(pb.add z).block<w1.heap.size:=fun z=>Nat.lt_of_lt_of_le (hpz z) H1.out.1.size
   have a0:=(hkp.cell (a:=pb.add (q*2)) (hp1 _) (hnT _)).trans ((Below.cell H1.out.1 (p:=pb.add (q*2)) (hpz _)).trans (hcs q hlt).1)
   have a1:=(hkp.cell (a:=⟨(pb.add (q*2)).block,(pb.add (q*2)).off+1,none⟩) (hp1 _) (hnT _)).trans ((Below.cell H1.out.1 (p:=⟨(pb.add (q*2)).block,(pb.add (q*2)).off+1,none⟩) (hpz _)).trans (hcs q hlt).2)
   obtain ⟨t,v,hp⟩:∃t v,L[q]=(t,v):=⟨_,_,rfl⟩
   rw[hp] at a0 a1
   simp only at a0 a1
   have hdr:L.drop q=(t,v)::L.drop (q+1):=by rw[←hp];exact List.drop_eq_getElem_cons hlt
   rw[hdr] at HUP
   obtain ⟨V,hV⟩:∃V,V=wr.alloc (.cells #[.int .i64 t, .int .i64 v] 26):=⟨_,rfl⟩
   have gV:Gr wr V:=by rw[hV];exact Gr.alloc (Gr.refl wr) _
   have b0:V.cell? ⟨wr.heap.size,0,none⟩=some (.int .i64 t):=by rw[hV];go_simp
   have b1:V.cell? ⟨wr.heap.size,1,none⟩=some (.int .i64 v):=by rw[hV];go_simp
   have hz:wr.heap.size<V.heap.size:=by rw[hV];simp
   obtain ⟨og,hog⟩:∃og,og=laysS ag xf m Dq t v now:=⟨_,rfl⟩
   have hla:=wlays_any t v now hnow2 (by omega) V (hfi.gr gV)
   rw[←hog] at hla
   have HLA:=Lib.hid hla
   have HV:=Lib.hid hV
   have HGV:=Lib.hid gV
   have HKP:=Lib.hid (And.intro hkp hRq)
   have HLE:=Lib.hid (And.intro hlt (And.intro hnq hkq))
   have hkqi:(kq:Int)≤1000:=by omega
   clear hla hV gV hkp hRq hfi hcs hnT hp1 hpz hpb hp hdr hnq hkq
   go_upto_region 10 with (fail)
   rw[←HV.out]
   clear HV a0 a1
   have HFIN:Hid (∀(w8:World) (R8:Option Nat) (n8:Nat) (D8:List UInt8),n8≤nq+27→FiM w8 X F P M R8 room n8 ag xf b cc m g d D8→Kp (Tcg P M Rq g) V w8→(∀z,R8=some z→Rq=some z∨V.heap.size≤z)→n8≤n+27*(q+1)∧FiM w8 X F P M R8 room n8 ag xf b cc m g d D8∧Kp (Tcg P M R g) w1 w8∧∀z,R8=some z→R=some z∨w1.heap.size≤z):=Lib.hid (fun w8 R8 n8 D8 e1 e2 e3 e4=>⟨by have:=HLE.out.2.1;omega,e2,HKP.out.1.trans ((Kp.of_gr (Tcg P M Rq g) HGV.out).trans e3 (fun _ _ e=>e)) (tcg_sub HKP.out.2),fun z hz=>(e4 z hz).elim (HKP.out.2 z) (fun e=> .inr (Nat.le_trans (Nat.le_trans HKP.out.1.size HGV.out.size) e))⟩)
   cases og with
   | none=>
    have HE:Hid (U=updS ag xf m now (L.drop (q+1)) (kq,Dq)):=Lib.hid (by rw[HUP.out,updS,←hog])
    clear hog HUP
    go_wp2_with (go_at_call 26;refine HLA.out.mono ?_;rintro e w8 ⟨rfl,R8,n8,hn8,hf8,hk8,hr8⟩;have H8:=HFIN.out w8 R8 n8 Dq hn8 hf8 hk8 hr8;have H8:=Lib.hid H8;clear hn8 hf8 hk8 hr8)
    go_roundw
    case rel=>exact ⟨q+1,kq,R8,n8,Dq,HLE.out.1,by go_num,rfl,by have:=HLE.out.2.2;omega,H8.out.1,H8.out.2.1,H8.out.2.2.1,H8.out.2.2.2,HE⟩
    case measure=>have:=HLE.out.1;simp[intOf];omega
   | some D8=>
    have HE:Hid (U=updS ag xf m now (L.drop (q+1)) (kq+1,D8)):=Lib.hid (by rw[HUP.out,updS,←hog])
    clear hog HUP
    go_wp2_with (go_at_call 26;refine HLA.out.mono ?_;rintro e w8 ⟨rfl,R8,n8,hn8,hf8,hk8,hr8⟩;have H8:=HFIN.out w8 R8 n8 D8 hn8 hf8 hk8 hr8;have H8:=Lib.hid H8;clear hn8 hf8 hk8 hr8)
    go_roundw
    case rel=>exact ⟨q+1,kq+1,R8,n8,D8,HLE.out.1,by go_num,by go_num,by have:=HLE.out.2.2;omega,H8.out.1,H8.out.2.1,H8.out.2.2.1,H8.out.2.2.2,HE⟩
    case measure=>have:=HLE.out.1;simp[intOf];omega
  ·
   have hqe:q=L.length:=by omega
   subst hqe
   rw[List.drop_length] at HUP
   have hU:U=(kq,Dq):=HUP.out
   have HFK:=Lib.hid (And.intro hfi.fs.weak (And.intro hkp hRq))
   have HUE:=Lib.hid hU
   clear hfi hkp hRq hU
   go_wp2_with (go_at_call 23;refine (sync_any _ HFK.out.1).mono ?_;rintro e w9 ⟨rfl,hF,hK⟩;have H9:=Lib.hid (And.intro hF hK);clear hF hK)
   go_ret2
   rw[HUE.out]
   refine ⟨rfl,H9.out.1,(((Kp.of_gr (Tch P M R) H1.out.1).trans HFK.out.2.1 (fun i hi e=>?_)).trans H9.out.2 (fun i _ e=> .inl e))⟩
   rcases e with e|e
   ·
    exact e
   ·
    have:=H1.out.2.2;omega
end Go.Proofs.Ytoncapkmaeghfaa
