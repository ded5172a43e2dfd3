import Derived.Test.YtjapddfnpmlifaaGreatDoorRunRxGood
import Derived.Test.YtjapddfnpmlifaaGreatDoorRxShelf
import Derived.Test.YtjapddfnpmlifaaGreatDoorRunFxBase
import Derived.OwnWalk
set_option linter.all false
set_option maxRecDepth 1000000
set_option maxHeartbeats 12800000
namespace Go.Proofs.YtjapddfnpmlifaaGreatDoor
open Go.RowKit
theorem Rdr.other {w:World} {R n:Nat} {s:ByteArray} {q:Rs} (h:Rdr w R s n q) (p:Addr) (hp:p.block≠R) (u:Value):Rdr (w.setCell p u) R s n q:=by
 have hx:∀i,(w.setCell p u).cell? ⟨R,i,none⟩=w.cell? ⟨R,i,none⟩:=λi=>World.cell?_of_block (a:=⟨R,i,none⟩) (heap_setCell_other w p R u (λe=>hp e.symm));have hy:∀i,(w.setCell p u).frozen? ⟨R,i,none⟩=w.frozen? ⟨R,i,none⟩:=λi=>by simp
 exact ⟨h.len,h.rest,(hx 0).trans h.c0,(hx 1).trans h.c1,(hx 2).trans h.c2,(hx 3).trans h.c3,(hx 4).trans h.c4,(hx 5).trans h.c5,(hy 1).trans h.f1,(hy 2).trans h.f2,(hy 3).trans h.f3,(hy 4).trans h.f4,(hy 5).trans h.f5,by simpa using h.lt⟩
theorem Rdr.next2 {w:World} {R n:Nat} {s:ByteArray} {q:Rs} (h:Rdr w R s n q) {c d:UInt8} {r:List UInt8} (hq:q.rest=c::d::r):Rdr (w.setCell ⟨R,1,none⟩ (.int .i64 ((n:Int)+2))) R s (n+2) {q with rest:=r}:=by
 have hl:=h.len;have hr:=h.rest;rw[hq] at hl hr;refine ⟨by simp at hl ⊢;omega,?_,?_,?_,?_,?_,?_,?_,?_,?_,?_,?_,?_,?_⟩
 ·show s.data.toList.drop (n+2)=r;rw[<-List.drop_drop,hr];rfl
 ·exact (World.cell?_setCell_other w ⟨R,1,none⟩ ⟨R,0,none⟩ _ (by simp)).trans h.c0
 ·have:=h.c1;have:=h.f1;go_simp
 ·exact (World.cell?_setCell_other w ⟨R,1,none⟩ ⟨R,2,none⟩ _ (by simp)).trans h.c2
 ·exact (World.cell?_setCell_other w ⟨R,1,none⟩ ⟨R,3,none⟩ _ (by simp)).trans h.c3
 ·exact (World.cell?_setCell_other w ⟨R,1,none⟩ ⟨R,4,none⟩ _ (by simp)).trans h.c4
 ·exact (World.cell?_setCell_other w ⟨R,1,none⟩ ⟨R,5,none⟩ _ (by simp)).trans h.c5
 ·exact (by simp:(w.setCell ⟨R,1,none⟩ _).frozen? ⟨R,1,none⟩=w.frozen? ⟨R,1,none⟩).trans h.f1
 ·exact (by simp:(w.setCell ⟨R,1,none⟩ _).frozen? ⟨R,2,none⟩=w.frozen? ⟨R,2,none⟩).trans h.f2
 ·exact (by simp:(w.setCell ⟨R,1,none⟩ _).frozen? ⟨R,3,none⟩=w.frozen? ⟨R,3,none⟩).trans h.f3
 ·exact (by simp:(w.setCell ⟨R,1,none⟩ _).frozen? ⟨R,4,none⟩=w.frozen? ⟨R,4,none⟩).trans h.f4
 ·exact (by simp:(w.setCell ⟨R,1,none⟩ _).frozen? ⟨R,5,none⟩=w.frozen? ⟨R,5,none⟩).trans h.f5
 ·simpa using h.lt
theorem ext_drop (s:ByteArray) (n:Nat):(s.extract n s.size).data.toList=s.data.toList.drop n:=by
 have hz:s.data.size=s.size:=rfl;simp[ByteArray.data_extract,Array.toList_extract,List.extract_eq_take_drop];rw[List.take_of_length_le (by simp)]
structure GSt (R:Nat) (w0:World) (P g A b:Nat) (p:Pc) (W:World):Prop where
 x:GX R w0 W
 node:Node W P 12 [] (.slice (some ⟨A,0,none⟩) 1 1) g false
 h0:w0.heap.size<=P
 h1:P<W.heap.size
 kn:Rkn (w0.heap.size-1) W.heap.size W (.slice (some ⟨A,0,none⟩) 1 1) [b]
 k:p.In (w0.heap.size-1) W.heap.size W b
theorem Rkn.gx {R lo b A:Nat} {W W':World} (h:Rkn lo W.heap.size W (.slice (some ⟨A,0,none⟩) 1 1) [b]) (x:GX R W W') (hR:R<=lo):Rkn lo W'.heap.size W' (.slice (some ⟨A,0,none⟩) 1 1) [b]:=
 (h.same (Same.gx x (Nat.le_refl _) hR)).wide (Nat.le_refl _) x.size
theorem GSt.gx {R P g A b:Nat} {p:Pc} {w0 W W':World} (h:GSt R w0 P g A b p W) (hR:R<w0.heap.size) (x:GX R W W'):GSt R w0 P g A b p W':=
 ⟨h.x.trans x,h.node.gx x h.h1 (by have:=h.h0;omega),h.h0,Nat.lt_of_lt_of_le h.h1 x.size,h.kn.gx x (by omega),Pc.In.wide (Nat.le_refl _) x.size _ _ (Pc.In.same (Same.gx x (Nat.le_refl _) (by omega)) _ _ h.k)⟩
theorem GSt.ret {R P g A b n:Nat} {s:ByteArray} {q:Rs} {p:Pc} {w0 W:World} (h:GSt R w0 P g A b p W) (hR:R<w0.heap.size) (r:Rdr W R s n q):RetP R s w0 (.group g p) q (.returned (.pointer (some ⟨P,0,none⟩))) W:=by
 refine ⟨P,n,rfl,?_,h.x,r⟩;simp only[Pc.In];have:=h.h0;exact ⟨by omega,h.h1,_,b,h.node,h.kn,h.k⟩
theorem GSt.make {R P g b:Nat} {p:Pc} {w0 w4 w5:World} (T:TypeId) (hR:R<w0.heap.size) (x4:GX R w0 w4) (n4:Node w4 P 12 [] (.slice none 0 0) g false) (f4:w4.frozen? ⟨P,2,none⟩=false) (h0:w0.heap.size<=P) (h1:P<w4.heap.size) (x5:GX R w4 w5) (k:p.In (w4.heap.size-1) w5.heap.size w5 b) :
  GSt R w0 P g w5.heap.size b p ((w5.alloc (.cells #[.pointer (some ⟨b,0,none⟩)] T)).setCell ⟨P,2,none⟩ (.slice (some ⟨w5.heap.size,0,none⟩) 1 1)):=by
 have z5:=x5.size;have z4:=x4.size;have n5:=(n4.gx x5 h1 (by omega))
 have f5:=(x5.frozen (p:=⟨P,2,none⟩) h1 (by simp;omega)).trans f4;have ha:GX R w5 (w5.alloc (.cells #[.pointer (some ⟨b,0,none⟩)] T)):=GX.of_gr (Gr.alloc (Gr.refl w5) _);have n6:=n5.gx ha (by omega) (by omega);have f6:=(ha.frozen (p:=⟨P,2,none⟩) (by simp;omega) (by simp;omega)).trans f5;have kn6:=Rkn.one (b:=b) (lo:=w4.heap.size-1) T (GX.refl R (w5.alloc (.cells #[.pointer (some ⟨b,0,none⟩)] T))) (by omega) (by omega);have k6:=Pc.In.same (Same.gx ha (Nat.le_refl _) (by omega)) _ _ k;have z6:=ha.size;generalize (w5.alloc (.cells #[.pointer (some ⟨b,0,none⟩)] T))=w6 at *;have sm:Same (w4.heap.size-1) w6.heap.size w6 (w6.setCell ⟨P,2,none⟩ (.slice (some ⟨w5.heap.size,0,none⟩) 1 1)):=Same.set (Nat.le_refl _) (.inl (by simp;omega)) _;have sz:(w6.setCell ⟨P,2,none⟩ (.slice (some ⟨w5.heap.size,0,none⟩) 1 1)).heap.size=w6.heap.size:=by simp
 obtain ⟨m0,m1,m2,m3,m4⟩:=n6;refine ⟨GX.setCell (p:=⟨P,2,none⟩) ((x4.trans x5).trans ha) (.inr h0) _,⟨?_,?_,?_,?_,?_⟩,h0,by omega,?_,?_⟩
 ·exact (World.cell?_setCell_other w6 ⟨P,2,none⟩ ⟨P,0,none⟩ _ (by simp)).trans m0
 ·exact (World.cell?_setCell_other w6 ⟨P,2,none⟩ ⟨P,1,none⟩ _ (by simp)).trans m1
 ·go_simp
 ·exact (World.cell?_setCell_other w6 ⟨P,2,none⟩ ⟨P,3,none⟩ _ (by simp)).trans m3
 ·exact (World.cell?_setCell_other w6 ⟨P,2,none⟩ ⟨P,4,none⟩ _ (by simp)).trans m4
 ·rw[sz];exact (kn6.same sm).wide (by omega) (Nat.le_refl _)
 ·rw[sz];exact Pc.In.wide (by omega) z6 _ _ (Pc.In.same ⟨Nat.le_trans z6 sm.1,λi h0 h1=>sm.2 i h0 (Nat.lt_of_lt_of_le h1 z6)⟩ _ _ k6)
theorem GSt.cut {Pr:Program} {c:Code} {Z:Exit->Act->World->Prop} {a:Act} {R P g b n:Nat} {s:ByteArray} {q:Rs} {p:Pc} {w0 w4 w5:World} (T:TypeId) (hR:R<w0.heap.size) (x4:GX R w0 w4) (n4:Node w4 P 12 [] (.slice none 0 0) g false) (f4:w4.frozen? ⟨P,2,none⟩=false) (h0:w0.heap.size<=P) (h1:P<w4.heap.size) (x5:GX R w4 w5) (k:p.In (w4.heap.size-1) w5.heap.size w5 b) (h:Rdr w5 R s n q)
  (K:∀W,GSt R w0 P g w5.heap.size b p W->Rdr W R s n q->Code.wp Pr c Z a W):Code.wp Pr c Z a ((w5.setCell ⟨P,2,none⟩ (.slice (some ⟨w5.heap.size,0,none⟩) 1 1)).alloc (.cells #[.pointer (some ⟨b,0,none⟩)] T)):=by
 have hp:P<w5.heap.size:=Nat.lt_of_lt_of_le h1 x5.size;rw[<-World.setCell_alloc_past (w:=w5) _ P 2 _ hp];exact K _ (GSt.make T hR x4 n4 f4 h0 h1 x5 k) ((h.gr (Gr.alloc (Gr.refl _) _)).other _ (by simp;omega) _)
theorem group_over {w:World} {R n:Nat} {s:ByteArray} {q:Rs} (h:Rdr w R s n q) (hs:(s.size:Int)<=4096) (hd:64<=q.deep) (hd2:q.deep<=5000) :
  Calls Tryz.prog 152 #[.pointer (some ⟨R,0,none⟩)] w (RetP R s w (failS {q with deep:=q.deep+1,over:=true}).1 (failS {q with deep:=q.deep+1,over:=true}).2):=by
 have h1:=h.setDeep (q.deep+1);have h2:=h1.setOver;simp only[Int.natCast_add,Int.natCast_one,Int.cast_ofNat_Int] at h1 h2;have x2:GX R w ((w.setCell ⟨R,3,none⟩ (.int .i64 ((q.deep:Int)+1))).setCell ⟨R,5,none⟩ (.bool true)):=GX.setCell (p:=⟨R,5,none⟩) (GX.setCell (p:=⟨R,3,none⟩) (GX.refl R w) (.inl rfl) _) (.inl rfl) _;have hwr:=wrap_in ((q.deep:Int)+1) (by omega) (by omega);have hgt:(64:Int)<(q.deep:Int)+1:=by omega
 have hgt2:decide ((64:Int)<(q.deep:Int)+1)=true:=decide_eq_true hgt;obtain ⟨c3,f3⟩:=And.intro h.c3 h.f3;obtain ⟨c5,f5⟩:=And.intro h1.c5 h1.f5;clear h1 h;go_enter Tryz.func152,Tryz.ntmps152;go_upto_region 4 with (fail)
 generalize ((w.setCell ⟨R,3,none⟩ (.int .i64 ((q.deep:Int)+1))).setCell ⟨R,5,none⟩ (.bool true))=w2 at h2 x2 ⊢;go_wp2_with (go_at_call 157;refine (fail_any h2).mono ?_;rintro e w9 ⟨b,m9,rfl,k9,x9,h9⟩);go_ret;exact RetP.from x2 ⟨b,m9,rfl,k9,x9,h9⟩
theorem group_true {w:World} {R n:Nat} {s:ByteArray} {q:Rs} (h:Rdr w R s n q) (hs:(s.size:Int)<=4096) (hd:q.deep<64) {c d:UInt8} {r:List UInt8} (hq:q.rest=c::d::r) (hh:Lib.hasPrefix q.rest [63,58]=true) (p:Pc) (t:Rs) (ht:t.bad=false->t.deep=q.deep+1)
  (HW:∀W m,Rdr W R s m {q with deep:=q.deep+1,rest:=r}->Calls Tryz.prog 79 #[.pointer (some ⟨R,0,none⟩)] W (RetP R s W p t)) :
  Calls Tryz.prog 152 #[.pointer (some ⟨R,0,none⟩)] w (RetP R s w (bif t.bad || !headIs 41 t.rest then failS t else (.group 0 p,{t with rest:=t.rest.drop 1,deep:=t.deep-1})).1 (bif t.bad || !headIs 41 t.rest then failS t else (.group 0 p,{t with rest:=t.rest.drop 1,deep:=t.deep-1})).2):=by
 have h1:=h.setDeep (q.deep+1);simp only[Int.natCast_add,Int.natCast_one,Int.cast_ofNat_Int] at h1;have x1:GX R w (w.setCell ⟨R,3,none⟩ (.int .i64 ((q.deep:Int)+1))):=GX.setCell (p:=⟨R,3,none⟩) (GX.refl R w) (.inl rfl) _;have hwr:=wrap_in ((q.deep:Int)+1) (by omega) (by omega);have hgt:¬(64:Int)<(q.deep:Int)+1:=by omega
 have hgt2:decide ((64:Int)<(q.deep:Int)+1)=false:=decide_eq_false hgt;have hR:=h.lt;have hle:=h.len;have hsr:=h.rest;obtain ⟨c3,f3⟩:=And.intro h.c3 h.f3;clear h;go_enter Tryz.func152,Tryz.ntmps152;go_upto_region 5 with (fail)
 generalize (w.setCell ⟨R,3,none⟩ (.int .i64 ((q.deep:Int)+1)))=w1 at h1 x1 ⊢;go_upto_region 6 with (fail)
 clear c3 f3 hwr hgt hgt2;have hz1:=x1.size;have h2:=h1.gr (Gr.alloc (Gr.refl w1) (.cells #[.int .i64 12, .string ⟨#[]⟩, .slice none 0 0, .int .i64 0, .bool false] 179));have n2:=node_new w1 12 0 [] (.slice none 0 0) false;have x2:=x1.alloc (.cells #[.int .i64 12, .string ⟨#[]⟩, .slice none 0 0, .int .i64 0, .bool false] 179);have fP:∀i,(w1.alloc (.cells #[.int .i64 12, .string ⟨#[]⟩, .slice none 0 0, .int .i64 0, .bool false] 179)).frozen? ⟨w1.heap.size,i,none⟩=false:=λi=>by go_simp
 have hP:w1.heap.size<(w1.alloc (.cells #[.int .i64 12, .string ⟨#[]⟩, .slice none 0 0, .int .i64 0, .bool false] 179)).heap.size:=by simp
 generalize hPP:w1.heap.size=P at *;clear x1 h1;generalize (w1.alloc (.cells #[.int .i64 12, .string ⟨#[]⟩, .slice none 0 0, .int .i64 0, .bool false] 179))=w2 at h2 n2 x2 fP hP ⊢;obtain ⟨c0,c1⟩:=And.intro h2.c0 h2.c1;have hn:(n:Int)<=s.size:=by omega
 go_quiet (first|(go_at_call 113;refine Calls.quiet_of_same (Tryz.strings_HasPrefix _ _ _)))
 have hex:(s.extract n s.size).data.toList=q.rest:=by rw[<-hsr];exact ext_drop s n
 rw[hex,hh]
 rename Nat=>nd
 have g3:Gr w2 (w2.drewN nd):=Gr.drewM (Gr.refl w2) nd;generalize w2.drewN nd=w3 at g3 ⊢;have h3:=h2.gr g3;have n3:=n2.gx (GX.of_gr (R:=R) g3) hP (by omega);have x3:=x2.trans (GX.of_gr g3);have fP3:∀i,w3.frozen? ⟨P,i,none⟩=false:=λi=>(g3.frozen (p:=⟨P,i,none⟩) hP).trans (fP i);have hP3:P<w3.heap.size:=Nat.lt_of_lt_of_le hP g3.size;clear g3 h2 n2 x2 fP hP hex hsr c0 c1;have hl3:=h3.len;simp only[hq,List.length_cons] at hl3;have hn2:(n:Int)+2<=s.size:=by omega
 have hwr:=wrap_in ((n:Int)+2) (by omega) (by omega);obtain ⟨c1,f1⟩:=And.intro h3.c1 h3.f1;go_upto_region 8 with (fail)
 have h4:=h3.next2 hq;have x4:GX R w (w3.setCell ⟨R,1,none⟩ (.int .i64 ((n:Int)+2))):=GX.setCell (p:=⟨R,1,none⟩) x3 (.inl rfl) _;have y4:GX R w3 (w3.setCell ⟨R,1,none⟩ (.int .i64 ((n:Int)+2))):=GX.setCell (p:=⟨R,1,none⟩) (GX.refl R w3) (.inl rfl) _;have n4:=n3.gx y4 hP3 (by omega);have fP4:=(y4.frozen (p:=⟨P,2,none⟩) hP3 (by simp;omega)).trans (fP3 2);have hP4:P<(w3.setCell ⟨R,1,none⟩ (.int .i64 ((n:Int)+2))).heap.size:=Nat.lt_of_lt_of_le hP3 y4.size;clear c1 f1 hwr hn2 h3 x3 n3 fP3 y4 hl3;generalize (w3.setCell ⟨R,1,none⟩ (.int .i64 ((n:Int)+2)))=w4 at h4 x4 n4 fP4 hP4 ⊢;have hPR:P≠R:=by omega
 go_upto_region 11 with (go_at_call 79;refine (HW _ _ h4).mono ?_;rintro e wv ⟨b,m,rfl,kv,xv,hv⟩;obtain ⟨pv0,pv1,pv2,pv3,pv4⟩:=n4.gx xv hP4 hPR;have fv:=(xv.frozen (p:=⟨P,2,none⟩) hP4 hPR).trans fP4;have hPv:P<wv.heap.size:=Nat.lt_of_lt_of_le hP4 xv.size)
 refine GSt.cut _ hR x4 n4 fP4 hz1 hP4 xv kv hv ?_;clear pv0 pv1 pv2 pv3 pv4 fv x4 n4 fP4 hP4 kv xv hv HW h4;intro wx G hx;obtain ⟨c4,f4⟩:=And.intro hx.c4 hx.f4;rcases Bool.eq_false_or_eq_true t.bad with hb|hb
 ·rw[hb] at c4;go_wp2_with (go_at_call 157;refine (fail_any hx).mono ?_;rintro e w9 ⟨b9,m9,rfl,k9,x9,h9⟩);go_ret;rw[show (t.bad || !headIs 41 t.rest)=true by rw[hb];rfl];exact RetP.from G.x ⟨b9,m9,rfl,k9,x9,h9⟩
 ·rw[hb] at c4;have htd:=ht hb;cases h41:headIs 41 t.rest
  ·go_wp2_with (first
    | (go_at_call 109;refine (takes_no hx hs 41 (by decide) h41).mono ?_;rintro e w8 ⟨rfl,g8⟩;have h8:=hx.gr g8)
    | (go_at_call 157;refine (fail_any h8).mono ?_;rintro e w9 ⟨b9,m9,rfl,k9,x9,h9⟩))
   go_ret;rw[show (t.bad || !headIs 41 t.rest)=true by rw[hb,h41];rfl];exact RetP.from (G.x.trans (GX.of_gr g8)) ⟨b9,m9,rfl,k9,x9,h9⟩
  ·have hwr:=wrap_in ((t.deep:Int)-1) (by omega) (by omega);go_upto_region 13 with (go_at_call 109;refine (takes_yes hx hs 41 (by decide) h41).mono ?_;rintro e w8 ⟨rfl,x8,h8⟩)
   obtain ⟨c3,f3⟩:=And.intro h8.c3 h8.f3;have h9:=h8.setDeep (t.deep-1);rw[show ((t.deep-1:Nat):Int)=(t.deep:Int)-1 by omega] at h9;go_wp2;go_ret;have h10:=(G.gx hR (GX.setCell (p:=⟨R,3,none⟩) x8 (.inl rfl) (.int .i64 ((t.deep:Int)-1)))).ret hR h9;simpa [htd,hb] using h10
theorem group_false {w:World} {R n:Nat} {s:ByteArray} {q:Rs} (h:Rdr w R s n q) (hs:(s.size:Int)<=4096) (hd:q.deep<64) (hh:Lib.hasPrefix q.rest [63,58]=false) (hg:q.groups<=5000) (p:Pc) (t:Rs) (ht:t.bad=false->t.deep=q.deep+1)
  (HW:∀W m,Rdr W R s m {q with deep:=q.deep+1,groups:=q.groups+1}->Calls Tryz.prog 79 #[.pointer (some ⟨R,0,none⟩)] W (RetP R s W p t)) :
  Calls Tryz.prog 152 #[.pointer (some ⟨R,0,none⟩)] w (RetP R s w (bif t.bad || !headIs 41 t.rest then failS t else (.group (q.groups+1) p,{t with rest:=t.rest.drop 1,deep:=t.deep-1})).1 (bif t.bad || !headIs 41 t.rest then failS t else (.group (q.groups+1) p,{t with rest:=t.rest.drop 1,deep:=t.deep-1})).2):=by
 have h1:=h.setDeep (q.deep+1);simp only[Int.natCast_add,Int.natCast_one,Int.cast_ofNat_Int] at h1;have x1:GX R w (w.setCell ⟨R,3,none⟩ (.int .i64 ((q.deep:Int)+1))):=GX.setCell (p:=⟨R,3,none⟩) (GX.refl R w) (.inl rfl) _;have hwr:=wrap_in ((q.deep:Int)+1) (by omega) (by omega);have hgt:¬(64:Int)<(q.deep:Int)+1:=by omega
 have hgt2:decide ((64:Int)<(q.deep:Int)+1)=false:=decide_eq_false hgt;have hR:=h.lt;have hle:=h.len;have hsr:=h.rest;obtain ⟨c3,f3⟩:=And.intro h.c3 h.f3;clear h;go_enter Tryz.func152,Tryz.ntmps152;go_upto_region 5 with (fail)
 generalize (w.setCell ⟨R,3,none⟩ (.int .i64 ((q.deep:Int)+1)))=w1 at h1 x1 ⊢;go_upto_region 6 with (fail)
 clear c3 f3 hwr hgt hgt2;have hz1:=x1.size;have h2:=h1.gr (Gr.alloc (Gr.refl w1) (.cells #[.int .i64 12, .string ⟨#[]⟩, .slice none 0 0, .int .i64 0, .bool false] 179));have n2:=node_new w1 12 0 [] (.slice none 0 0) false;have x2:=x1.alloc (.cells #[.int .i64 12, .string ⟨#[]⟩, .slice none 0 0, .int .i64 0, .bool false] 179);have fP:∀i,(w1.alloc (.cells #[.int .i64 12, .string ⟨#[]⟩, .slice none 0 0, .int .i64 0, .bool false] 179)).frozen? ⟨w1.heap.size,i,none⟩=false:=λi=>by go_simp
 have hP:w1.heap.size<(w1.alloc (.cells #[.int .i64 12, .string ⟨#[]⟩, .slice none 0 0, .int .i64 0, .bool false] 179)).heap.size:=by simp
 generalize hPP:w1.heap.size=P at *;clear x1 h1;generalize (w1.alloc (.cells #[.int .i64 12, .string ⟨#[]⟩, .slice none 0 0, .int .i64 0, .bool false] 179))=w2 at h2 n2 x2 fP hP ⊢;obtain ⟨c0,c1⟩:=And.intro h2.c0 h2.c1;have hn:(n:Int)<=s.size:=by omega
 go_quiet (first|(go_at_call 113;refine Calls.quiet_of_same (Tryz.strings_HasPrefix _ _ _)))
 have hex:(s.extract n s.size).data.toList=q.rest:=by rw[<-hsr];exact ext_drop s n
 rw[hex,hh]
 rename Nat=>nd
 have g3:Gr w2 (w2.drewN nd):=Gr.drewM (Gr.refl w2) nd;generalize w2.drewN nd=w3 at g3 ⊢;have h3:=h2.gr g3;have n3:=n2.gx (GX.of_gr (R:=R) g3) hP (by omega);have x3:=x2.trans (GX.of_gr g3);have fP3:∀i,w3.frozen? ⟨P,i,none⟩=false:=λi=>(g3.frozen (p:=⟨P,i,none⟩) hP).trans (fP i);have hP3:P<w3.heap.size:=Nat.lt_of_lt_of_le hP g3.size;clear g3 h2 n2 x2 fP hP hex hsr c0 c1;have h4:=h3.setGroups (q.groups+1);simp only[Int.natCast_add,Int.natCast_one,Int.cast_ofNat_Int] at h4;have hwr:=wrap_in ((q.groups:Int)+1) (by omega) (by omega);obtain ⟨c2,f2⟩:=And.intro h3.c2 h3.f2;go_upto_region 9 with (fail)
 have x4:GX R w (w3.setCell ⟨R,2,none⟩ (.int .i64 ((q.groups:Int)+1))):=GX.setCell (p:=⟨R,2,none⟩) x3 (.inl rfl) _;have y4:GX R w3 (w3.setCell ⟨R,2,none⟩ (.int .i64 ((q.groups:Int)+1))):=GX.setCell (p:=⟨R,2,none⟩) (GX.refl R w3) (.inl rfl) _;have n4:=n3.gx y4 hP3 (by omega);have fP4:=λi=>(y4.frozen (p:=⟨P,i,none⟩) hP3 (by simp;omega)).trans (fP3 i);have hP4:P<(w3.setCell ⟨R,2,none⟩ (.int .i64 ((q.groups:Int)+1))).heap.size:=Nat.lt_of_lt_of_le hP3 y4.size;clear c2 f2 hwr h3 x3 n3 fP3 y4;generalize (w3.setCell ⟨R,2,none⟩ (.int .i64 ((q.groups:Int)+1)))=w4 at h4 x4 n4 fP4 hP4 ⊢;obtain ⟨c2,f2⟩:=And.intro h4.c2 h4.f2;simp only[Int.natCast_add,Int.natCast_one,Int.cast_ofNat_Int] at c2;obtain ⟨p0,p1,p2,p3,p4⟩:=id n4;have fP43:=fP4 3;go_upto_region 10 with (fail)
 have n5:Node (w4.setCell ⟨P,3,none⟩ (.int .i64 ((q.groups:Int)+1))) P 12 [] (.slice none 0 0) (q.groups+1) false:=by
  refine ⟨(World.cell?_setCell_other w4 ⟨P,3,none⟩ ⟨P,0,none⟩ _ (by simp)).trans p0,(World.cell?_setCell_other w4 ⟨P,3,none⟩ ⟨P,1,none⟩ _ (by simp)).trans p1,(World.cell?_setCell_other w4 ⟨P,3,none⟩ ⟨P,2,none⟩ _ (by simp)).trans p2,?_,(World.cell?_setCell_other w4 ⟨P,3,none⟩ ⟨P,4,none⟩ _ (by simp)).trans p4⟩;have e:((q.groups+1:Nat):Int)=(q.groups:Int)+1:=by omega
  rw[e];go_simp
 have h5:=h4.other ⟨P,3,none⟩ (by simp;omega) (.int .i64 ((q.groups:Int)+1));have x5:GX R w (w4.setCell ⟨P,3,none⟩ (.int .i64 ((q.groups:Int)+1))):=GX.setCell (p:=⟨P,3,none⟩) x4 (.inr (by simp;omega)) _;have fP5:(w4.setCell ⟨P,3,none⟩ (.int .i64 ((q.groups:Int)+1))).frozen? ⟨P,2,none⟩=false:=by simpa using fP4 2
 have hP5:P<(w4.setCell ⟨P,3,none⟩ (.int .i64 ((q.groups:Int)+1))).heap.size:=by simpa using hP4
 clear c2 f2 p0 p1 p2 p3 p4 fP43 h4 x4 n4 fP4 hP4;generalize (w4.setCell ⟨P,3,none⟩ (.int .i64 ((q.groups:Int)+1)))=w5 at h5 x5 n5 fP5 hP5 ⊢;have hPR:P≠R:=by omega
 go_upto_region 11 with (go_at_call 79;refine (HW _ _ h5).mono ?_;rintro e wv ⟨b,m,rfl,kv,xv,hv⟩;obtain ⟨pv0,pv1,pv2,pv3,pv4⟩:=n5.gx xv hP5 hPR;have fv:=(xv.frozen (p:=⟨P,2,none⟩) hP5 hPR).trans fP5;have hPv:P<wv.heap.size:=Nat.lt_of_lt_of_le hP5 xv.size)
 refine GSt.cut _ hR x5 n5 fP5 hz1 hP5 xv kv hv ?_;clear pv0 pv1 pv2 pv3 pv4 fv x5 n5 fP5 hP5 kv xv hv HW h5;intro wx G hx;obtain ⟨c4,f4⟩:=And.intro hx.c4 hx.f4;rcases Bool.eq_false_or_eq_true t.bad with hb|hb
 ·rw[hb] at c4;go_wp2_with (go_at_call 157;refine (fail_any hx).mono ?_;rintro e w9 ⟨b9,m9,rfl,k9,x9,h9⟩);go_ret;rw[show (t.bad || !headIs 41 t.rest)=true by rw[hb];rfl];exact RetP.from G.x ⟨b9,m9,rfl,k9,x9,h9⟩
 ·rw[hb] at c4;have htd:=ht hb;cases h51:headIs 41 t.rest
  ·go_wp2_with (first
    | (go_at_call 109;refine (takes_no hx hs 41 (by decide) h51).mono ?_;rintro e w8 ⟨rfl,g8⟩;have h8:=hx.gr g8)
    | (go_at_call 157;refine (fail_any h8).mono ?_;rintro e w9 ⟨b9,m9,rfl,k9,x9,h9⟩))
   go_ret;rw[show (t.bad || !headIs 41 t.rest)=true by rw[hb,h51];rfl];exact RetP.from (G.x.trans (GX.of_gr g8)) ⟨b9,m9,rfl,k9,x9,h9⟩
  ·have hwr:=wrap_in ((t.deep:Int)-1) (by omega) (by omega);go_upto_region 13 with (go_at_call 109;refine (takes_yes hx hs 41 (by decide) h51).mono ?_;rintro e w8 ⟨rfl,x8,h8⟩)
   obtain ⟨c3,f3⟩:=And.intro h8.c3 h8.f3;have h9:=h8.setDeep (t.deep-1);rw[show ((t.deep-1:Nat):Int)=(t.deep:Int)-1 by omega] at h9;go_wp2;go_ret;have h10:=(G.gx hR (GX.setCell (p:=⟨R,3,none⟩) x8 (.inl rfl) (.int .i64 ((t.deep:Int)-1)))).ret hR h9;simpa [htd,hb] using h10
section
variable {P:Program} {w:World}
theorem wp_append_rdX {o:Oper} {a:Act} {Q:Exit->Act->World->Prop} {K:Act->World->Prop} (s x:Operand) (t:TypeId)
  (ho:o.op= .call {callee:= .builtin .append,args:= #[s,x],argTypes:= #[t,t]})
  (base:Nat) (e:TypeId) (i:TypeInfo) (z:Value) (size bytes:Nat) (ht:P.underlying t=some (.slice e)) (hi:P.info? e=some i) (hz:i.zero=some z)
  (hsize:i.size=size) (hby:i.bytes=bytes) (hzs:z.cells.size=size) (hsz:0<size)
  (v:Value) (n:Nat) (xs:List Value) (hs:a.eval s=v) (hown:w.ownsRow base e size v n xs)
  (ad:Addr) (m c:Nat) (news:List Value) (hx:a.eval x= .slice (some ad) m c) (hr:Rd w size (some ad) m news) (hm:0<m) (h1:∀u∈news,u.oneCell'=true)
  (h63:n+m<=maxLen) (hbytes:(n+m)*bytes<=140737488355328) (hbase:base<=w.heap.size)
  (h:∀v' w',w'.ownsRow base e size v' (n+m) (xs++news)->w.grownBy w' v.ownBlock->(v'.ownBlock=v.ownBlock\/v'.ownBlock=some w.heap.size)->K (a.put o.dst v') w'):Oper.wp P o a w K Q:=by
 obtain ⟨ad',e',_,hc⟩:=hr.2 hm;injection e' with e';subst e';obtain ⟨v',w',hr1,h2,h3,_,h4⟩:=run_append_own_at (P:=P) w base t o.type e i z size bytes ht hi hz hsize hby hzs hsz v n xs hown ad m c news hr.1 hc h1 h63 hbytes hbase;unfold Oper.wp execOp;simp only[ho,resolve,invoke,builtin,Sem.run_bind,Sem.run_pure,Result.andThen_ok,List.map_toArray,List.map_cons,List.map_nil,hs,hx,hr1];exact h v' w' h2 h3 h4
theorem own_setX {base:Nat} {e:TypeId} {size n:Nat} {v:Value} {xs:List Value} (h:w.ownsRow base e size v n xs) {p:Addr} (hp:p.block<base) (u:Value):(w.setCell p u).ownsRow base e size v n xs:=by
 obtain ⟨h1,⟨hv,h0⟩|⟨g',cap,cur,hv,hb,hh,h2⟩⟩:=h
 ·exact ⟨h1, .inl ⟨hv,h0⟩⟩
 ·exact ⟨h1, .inr ⟨g',cap,cur,hv,hb,(Below.heap_setCell w p u g' (by omega)).trans hh,h2⟩⟩
end
theorem hasPrefix_open (r:List UInt8):Lib.hasPrefix r [63,58]=(headIs 63 r&&headIs 58 (r.drop 1)):=by
 have h0:∀(n:Nat) (hn:n<256) (c:UInt8),((UInt8.ofNat n)==c)=(c.toNat==n):=λn hn c=>by
  by_cases h:c.toNat=n
  ·have:c=UInt8.ofNat n:=by rw[<-h];simp
   subst this;simp[UInt8.toNat_ofNat,Nat.mod_eq_of_lt hn]
  ·rw[beq_eq_false_iff_ne.2 h];refine beq_eq_false_iff_ne.2 (λe=>h ?_);rw[<-e];simp[UInt8.toNat_ofNat,Nat.mod_eq_of_lt hn]
 match r with
 | []=>rfl
 | [c]=>simp[Lib.hasPrefix,List.isPrefixOf,headIs]
 | c::d::t=>
  show (((63:UInt8)==c)&&(((58:UInt8)==d)&&true))=((c.toNat==63)&&(d.toNat==58))
  rw[show (63:UInt8)=UInt8.ofNat 63 from rfl,show (58:UInt8)=UInt8.ofNat 58 from rfl,h0 63 (by decide),h0 58 (by decide),Bool.and_true]
theorem group_all {w:World} {R n:Nat} {s:ByteArray} {q:Rs} (Wf:Rs->Pc×Rs) (hWf:∀s,Gd 0 s (Wf s).2) (h:Rdr w R s n q) (hs:(s.size:Int)<=4096) (hg:q.groups<=5000) (hd:q.deep<=5000)
  (HW:∀W m,Rdr W R s m (openS {q with deep:=q.deep+1}).2->Calls Tryz.prog 79 #[.pointer (some ⟨R,0,none⟩)] W (RetP R s W (Wf (openS {q with deep:=q.deep+1}).2).1 (Wf (openS {q with deep:=q.deep+1}).2).2)) :
  Calls Tryz.prog 152 #[.pointer (some ⟨R,0,none⟩)] w (RetP R s w (groupS Wf q).1 (groupS Wf q).2):=by
 unfold groupS;by_cases h64:64<=q.deep
 ·rw[show Nat.ble 64 q.deep=true from (by rw[Nat.ble_eq];exact h64)];exact group_over h hs h64 hd
 ·have e64:Nat.ble 64 q.deep=false:=by
   cases e:Nat.ble 64 q.deep with
   | false=>rfl
   | true=>rw[Nat.ble_eq] at e;exact absurd e h64
  rw[e64];have hp:=hasPrefix_open q.rest;have ho:=hWf (openS {q with deep:=q.deep+1}).2;have hod:=(openS_gd {q with deep:=q.deep+1}).2.2.1;have ht:∀t:Rs,t=(Wf (openS {q with deep:=q.deep+1}).2).2->t.bad=false->t.deep=q.deep+1:=λt e hb=>by subst e;rw[ho.e hb,hod]
  cases hx:(headIs 63 q.rest&&headIs 58 (q.rest.drop 1))
  ·rw[hx] at hp;have eo:openS {q with deep:=q.deep+1}=(q.groups+1,{q with deep:=q.deep+1,groups:=q.groups+1}):=by unfold openS;simp only[hx,cond_false]
   rw[eo] at HW ht ⊢;exact group_false h hs (by omega) hp hg _ _ (ht _ rfl) HW
  ·rw[hx] at hp;have eo:openS {q with deep:=q.deep+1}=(0,{q with deep:=q.deep+1,rest:=q.rest.drop 2}):=by unfold openS;simp only[hx,cond_true]
   obtain ⟨c,d,r,hq⟩:∃c d r,q.rest=c::d::r:=by
    match e:q.rest with
    | []=>rw[e] at hx;cases hx
    | [c]=>rw[e] at hx;simp[headIs] at hx
    | c::d::r=>exact ⟨c,d,r,rfl⟩
   rw[eo] at HW ht ⊢;have e2:q.rest.drop 2=r:=by rw[hq];rfl
   rw[e2] at HW ht ⊢;exact group_true h hs (by omega) hq hp _ _ (ht _ rfl) HW
theorem ptrs_one (l:List Nat):∀u∈ptrs l,u.oneCell'=true:=by
 intro u hu;simp only[ptrs,List.mem_map] at hu;obtain ⟨b,_,rfl⟩:=hu;rfl
theorem info_ptr:(Tryz.prog.info? 157).map (λi=>(i.zero,i.size,i.bytes))=some (some (.pointer none),1,8):=by kernel_rfl
theorem PcL.app_nil:∀l:PcL,l.app .nil=l
 | .nil=>rfl
 | .cons p l=>by simp only[PcL.app,PcL.app_nil l]
theorem PcL.app_snoc (p:Pc) (t:PcL):∀l:List Pc,(PcL.ofList (l++[p])).app t=(PcL.ofList l).app (.cons p t)
 | []=>rfl
 | q::l=>by simp only[List.cons_append,PcL.ofList,PcL.app,PcL.app_snoc p t l]
def NS (P:Nat) (A:Option Addr) (k c:Nat) (W:World):Prop:=Node W P 10 [] (.slice A k c) 0 false/\W.frozen? ⟨P,2,none⟩=false/\P<W.heap.size
theorem NS.gx {P k c R:Nat} {A:Option Addr} {W W':World} (h:NS P A k c W) (x:GX R W W') (hn:P≠R):NS P A k c W':=⟨h.1.gx x h.2.2 hn,(x.frozen (p:=⟨P,2,none⟩) h.2.2 hn).trans h.2.1,Nat.lt_of_lt_of_le h.2.2 x.size⟩
theorem NS.gr {P k c:Nat} {A:Option Addr} {W W':World} (h:NS P A k c W) (x:Gr W W'):NS P A k c W':=h.gx (GX.of_gr (R:=P+1) x) (by omega)
theorem NS.drew {P k c:Nat} {A:Option Addr} {W:World} (h:NS P A k c W):NS P A k c W.drew:=h.gr (Gr.drew (Gr.refl _))
theorem NS.grown {P k c:Nat} {A:Option Addr} {W W':World} {row:Option Nat} (h:NS P A k c W) (x:W.grownBy W' row) (hn:row≠some P):NS P A k c W':=by
 have e:W'.heap[P]?=W.heap[P]?:=x.block P h.2.2 (λe=>hn e.symm);obtain ⟨⟨n0,n1,n2,n3,n4⟩,hf,hz⟩:=h;exact ⟨⟨(World.cell?_of_block (a:=⟨P,0,none⟩) e).trans n0,(World.cell?_of_block (a:=⟨P,1,none⟩) e).trans n1,(World.cell?_of_block (a:=⟨P,2,none⟩) e).trans n2,(World.cell?_of_block (a:=⟨P,3,none⟩) e).trans n3,(World.cell?_of_block (a:=⟨P,4,none⟩) e).trans n4⟩,(World.frozen?_of_block (a:=⟨P,2,none⟩) e).trans hf,Nat.lt_of_lt_of_le hz x.size⟩
theorem own_gx {w w':World} {R base:Nat} {e:TypeId} {size n:Nat} {v:Value} {xs:List Value} (h:w.ownsRow base e size v n xs) (x:GX R w w') (hR:R<base):w'.ownsRow base e size v n xs:=by
 obtain ⟨h1,⟨hv,h0⟩|⟨g',cap,cur,hv,hb,hh,h2⟩⟩:=h
 ·exact ⟨h1, .inl ⟨hv,h0⟩⟩
 ·exact ⟨h1, .inr ⟨g',cap,cur,hv,hb,(x.block g' (Array.getElem?_eq_some_iff.1 hh).1 (by omega)).trans hh,h2⟩⟩
theorem GX.grown {R:Nat} {w0 w w':World} {row:Option Nat} (x:GX R w0 w) (g:w.grownBy w' row) (hr:∀j,row=some j->w0.heap.size<=j):GX R w0 w':=by
 have x':=x;obtain ⟨g1,g2,g3,g4,g5⟩:=g;refine ⟨g1.trans x.os,g2.trans x.tape,g3.trans x.output,Nat.le_trans x.size g4,λi hi hn=>(g5 i (Nat.lt_of_lt_of_le hi x.size) (λe=>?_)).trans (x.block i hi hn)⟩;have:=hr i e.symm;omega
theorem Rdr.grown {w w':World} {R n:Nat} {s:ByteArray} {q:Rs} {row:Option Nat} (h:Rdr w R s n q) (x:w.grownBy w' row) (hn:row≠some R):Rdr w' R s n q:=by
 have e:w'.heap[R]?=w.heap[R]?:=x.block R h.lt (λe=>hn e.symm);have hx:∀i,w'.cell? ⟨R,i,none⟩=w.cell? ⟨R,i,none⟩:=λi=>World.cell?_of_block (a:=⟨R,i,none⟩) e;have hy:∀i,w'.frozen? ⟨R,i,none⟩=w.frozen? ⟨R,i,none⟩:=λi=>World.frozen?_of_block (a:=⟨R,i,none⟩) e;exact ⟨h.len,h.rest,(hx 0).trans h.c0,(hx 1).trans h.c1,(hx 2).trans h.c2,(hx 3).trans h.c3,(hx 4).trans h.c4,(hx 5).trans h.c5,(hy 1).trans h.f1,(hy 2).trans h.f2,(hy 3).trans h.f3,(hy 4).trans h.f4,(hy 5).trans h.f5,Nat.lt_of_lt_of_le h.lt x.size⟩
theorem NS.set {P k c k' c':Nat} {A A':Option Addr} {W:World} (h:NS P A k c W):NS P A' k' c' (W.setCell ⟨P,2,none⟩ (.slice A' k' c')):=by
 obtain ⟨⟨n0,n1,n2,n3,n4⟩,hf,hz⟩:=h;refine ⟨⟨(World.cell?_setCell_other W ⟨P,2,none⟩ ⟨P,0,none⟩ _ (by simp)).trans n0,(World.cell?_setCell_other W ⟨P,2,none⟩ ⟨P,1,none⟩ _ (by simp)).trans n1,?_,(World.cell?_setCell_other W ⟨P,2,none⟩ ⟨P,3,none⟩ _ (by simp)).trans n3,(World.cell?_setCell_other W ⟨P,2,none⟩ ⟨P,4,none⟩ _ (by simp)).trans n4⟩,by simpa using hf,by simpa using hz⟩;go_simp
theorem Kids.set {B:Nat} {g:Option Nat} {w:World} {l:List Pc} {bs:List Nat} (h:Kids (some B) g w l bs) (u:Value) (i:Nat):Kids (some B) g (w.setCell ⟨B,i,none⟩ u) l bs:=
 ⟨h.1,λj hj hj'=>by
  obtain ⟨lo,hi,k,kb,kh,kg⟩:=h.2 j hj hj';exact ⟨lo,hi,Pc.In.same (Same.set kh (.inl (kb B rfl)) u) _ _ k,kb,by simpa using kh,kg⟩⟩
structure RowI (R:Nat) (w0:World) (s:ByteArray) (Wf:Rs->Pc×Rs) (T:PcL×Rs) (P:Nat) (wr:World) (m:Nat) (q:Rs) (k N c:Nat) (A:Option Addr) (l:List Pc) (bs:List Nat):Prop where
 h:Rdr wr R s m q
 x:GX R w0 wr
 ns:NS P A N c wr
 own:wr.ownsRow (P+1) 157 1 (.slice A N c) N (ptrs bs)
 kids:Kids (some P) (Value.slice A N c).ownBlock wr l bs
 hN:N=bs.length
 hP:w0.heap.size<=P
 hc:Hid ((PcL.ofList l).app (rowS Wf k q).1=T.1/\(rowS Wf k q).2=T.2)
theorem RowI.ret {R:Nat} {w0:World} {s:ByteArray} {Wf:Rs->Pc×Rs} {T:PcL×Rs} {P:Nat} {wr:World} {m:Nat} {q:Rs} {k N c:Nat} {A:Option Addr} {l:List Pc} {bs:List Nat}
  (I:RowI R w0 s Wf T P wr m q k N c A l bs) (hR:R<w0.heap.size) (e:rowS Wf k q=(.nil,q)):RetP R s w0 (.row T.1) T.2 (.returned (.pointer (some ⟨P,0,none⟩))) wr:=by
 have hc:=I.hc.out;rw[e] at hc;simp only[PcL.app_nil] at hc;rw[<-hc.1,<-hc.2];refine ⟨P,m,rfl,?_,I.x,I.h⟩;have hP:=I.hP;have hN:=I.hN;simp only[Pc.In];refine ⟨by omega,I.ns.2.2, .slice A N c,bs,I.ns.1,⟨A,c,by rw[hN],?_,λh0 ad ha=>?_⟩,PcL.In.wide (by omega) (Nat.le_refl _) _ _ I.kids.list⟩
 ·have:=Rd.own I.own;rw[hN] at this;exact this
 ·obtain ⟨_,⟨hv,h0'⟩|⟨g',cap,cur,hv,hb,hh,_⟩⟩:=I.own
  ·omega
  ·injection hv with hv1 _ _;rw[ha] at hv1;injection hv1 with hv1;subst hv1;exact ⟨by show w0.heap.size-1<g';omega,(Array.getElem?_eq_some_iff.1 hh).1⟩
theorem RowI.gr {R:Nat} {w0:World} {s:ByteArray} {Wf:Rs->Pc×Rs} {T:PcL×Rs} {P:Nat} {wr w':World} {m:Nat} {q:Rs} {k N c:Nat} {A:Option Addr} {l:List Pc} {bs:List Nat}
  (I:RowI R w0 s Wf T P wr m q k N c A l bs) (g:Gr wr w'):RowI R w0 s Wf T P w' m q k N c A l bs:=
 ⟨I.h.gr g,I.x.trans (GX.of_gr g),I.ns.gr g,own_gx I.own (GX.of_gr (R:=P) g) (Nat.lt_succ_self _),I.kids.gr g,I.hN,I.hP,I.hc⟩
theorem row_any {w:World} {R n0:Nat} {s:ByteArray} {q:Rs} (Wf:Rs->Pc×Rs) (hWf:∀s,Gd 0 s (Wf s).2) (h:Rdr w R s n0 q) (hs:(s.size:Int)<=4096) (n:Nat) (hn:q.rest.length<=n) (hB:BdX q)
  (HP:∀W m q c r,Rdr W R s m q->q.rest=c::r->q.rest.length<=n->BdX q->Calls Tryz.prog 136 #[.pointer (some ⟨R,0,none⟩)] W (RetP R s W (pieceS Wf q).1 (pieceS Wf q).2)) :
  Calls Tryz.prog 108 #[.pointer (some ⟨R,0,none⟩)] w (RetP R s w (rowP Wf q).1 (rowP Wf q).2):=by
 obtain ⟨i0,hi0,hz0,hz1,hz2⟩:=info_parts info_ptr;unfold rowP;obtain ⟨T,hT⟩:∃T,rowS Wf (q.rest.length+1) q=T:=⟨_,rfl⟩
 rw[hT];have hR:=h.lt;have I0:RowI R w s Wf T w.heap.size (w.alloc (.cells #[.int .i64 10, .string ⟨#[]⟩, .slice none 0 0, .int .i64 0, .bool false] 179)) n0 q (q.rest.length+1) 0 0 none [] []:=
  ⟨h.gr (Gr.alloc (Gr.refl w) _),GX.of_gr (Gr.alloc (Gr.refl w) _),⟨node_new w 10 0 [] _ false,by go_simp,by simp⟩,World.ownsRow_nil _ _ _ _,Kids.nil _ _ _,rfl,Nat.le_refl _,Lib.hid (by rw[hT];exact ⟨rfl,rfl⟩)⟩
 generalize hPP:w.heap.size=P at I0;clear hT;go_enter Tryz.func108,Tryz.ntmps108;go_upto_region 2 with (fail)
 generalize (w.alloc (.cells #[.int .i64 10, .string ⟨#[]⟩, .slice none 0 0, .int .i64 0, .bool false] 179))=w1 at I0 ⊢
 go_loopw [] (λwr=>∃m q k N c A l bs,RowI R w s Wf T P wr m q k N c A l bs/\q.rest.length<k/\q.rest.length<=n/\BdX q/\N<=m) (λwr=>s.size-rdN R wr)
 case atStart=>exact ⟨n0,q,_,0,0,none,[],[],I0,Nat.lt_succ_self _,hn,hB,Nat.zero_le _⟩
 case round=>
  clear I0 hn hB h;obtain ⟨m,q,k,N,c,A,l,bs,I,hk,hqn,hB,hNm⟩:=hrel;obtain ⟨k,rfl⟩:∃j,k=j+1:=⟨k-1,by omega⟩
  have Hmn:=Lib.hid I.h.n;have hlen:=I.h.len;obtain ⟨c4,f4⟩:=And.intro I.h.c4 I.h.f4;rcases Bool.eq_false_or_eq_true q.bad with hb|hb
  ·rw[hb] at c4;go_wp2;have e1:rowS Wf (k+1) q=(.nil,q):=by
    unfold rowS;rw[hb];rfl
   go_ret;exact I.ret hR e1
  ·rw[hb] at c4;rcases hq:q.rest with _|⟨d,r⟩
   ·have QN:=now_end I.h hs hq;go_wp2_with (go_at_call 135;refine QN.mono ?_;rintro e w4 ⟨rfl,g4⟩);have I:=I.gr g4;have e1:rowS Wf (k+1) q=(.nil,q):=by
     unfold rowS;rw[hb,hq];rfl
    go_ret;exact I.ret hR e1
   ·have QN:=now_some I.h hs hq;by_cases h124:d.toNat=124
    ·simp only[h124] at QN;go_wp2_with (go_at_call 135;refine QN.mono ?_;rintro e w4 ⟨rfl,g4⟩);have I:=I.gr g4;have e1:rowS Wf (k+1) q=(.nil,q):=by
      unfold rowS;rw[hb,hq,show endR (d::r)=true by simp[endR,h124]];rfl
     go_ret;exact I.ret hR e1
    ·by_cases h41:d.toNat=41
     ·simp only[h41] at QN;go_wp2_with (go_at_call 135;refine QN.mono ?_;rintro e w4 ⟨rfl,g4⟩);have I:=I.gr g4;have e1:rowS Wf (k+1) q=(.nil,q):=by
       unfold rowS;rw[hb,hq,show endR (d::r)=true by simp[endR,h41]];rfl
      go_ret;exact I.ret hR e1
     ·have hend:endR (d::r)=false:=by simp[endR,h124,h41]
      have k124:((d.toNat:Int)==124)=false:=beq_eq_false_iff_ne.2 (by omega);have k41:((d.toNat:Int)==41)=false:=beq_eq_false_iff_ne.2 (by omega);have e1:rowS Wf (k+1) q=(.cons (pieceS Wf q).1 (rowS Wf k (pieceS Wf q).2).1,(rowS Wf k (pieceS Wf q).2).2):=by
       conv=>lhs;unfold rowS
       rw[hb,hq,hend];rfl
      go_upto_region 5 with (go_at_call 135;refine QN.mono ?_;rintro e w4 ⟨rfl,g4⟩)
      have I:=(I.gr g4).gr (Gr.drew (Gr.refl _));obtain ⟨V,hV⟩:∃V,V=w4.drew:=⟨_,rfl⟩
      refine wp_region_Z 11 (NS P A N c) (by kernel_rfl) ?_;rw[<-hV] at I ⊢;clear hV g4 QN c4 f4;obtain ⟨hpg,hpl⟩:=pieceS_gd hWf hq;have hl1:q.rest.length=r.length+1:=by rw[hq];rfl
      obtain ⟨hV2,xw0,hS0,own0,kids0,hN,hP,hc⟩:=I;have HN:=Lib.hid hN;clear hN;have hvo:=own0.lt;have hPR:P≠R:=by omega
      have hPV:=hS0.2.2;refine zt 0 hS0 ?_;refine zt 1 hS0 ?_;refine zt 2 hS0 ?_;refine zt 3 hS0 ?_;refine zt 4 hS0 ?_ (hy:=λW hS=>by obtain ⟨⟨p0,p1,p2,p3,p4⟩,_,_⟩:=hS;go_simp<;>rfl);refine zt 5 hS0 ?_;refine zs 6 rfl (λK hK=>?_);go_simp;refine (HP _ _ _ _ _ hV2 hq hqn hB).mono ?_;rintro e w5 ⟨b,m5,rfl,k5,x5,h5⟩;have hS5:=hS0.gx x5 hPR;have own5:=own_gx own0 x5 (by omega);have kids5:=kids0.gx x5 (by omega);have xw5:=xw0.trans x5;have z5:=x5.size;go_wp2_with fail;refine hK.out _ _ (λhnz=>?s7) (λ_=>?r7);case s7=>exact hS5
      clear hK K;try simp only[Pu]
      refine zs 7 rfl (λK hK=>?_);have gA:Gr w5 (w5.alloc (.cells #[.pointer (some ⟨b,0,none⟩)] 157)):=Gr.alloc (Gr.refl w5) _;have hS6:=hS5.gr gA;have own6:=own_gx own5 (GX.of_gr (R:=R) gA) (by omega);have kids6:=kids5.gr gA;have hrx:Rd (w5.alloc (.cells #[.pointer (some ⟨b,0,none⟩)] 157)) 1 (some ⟨w5.heap.size,0,none⟩) 1 (ptrs [b]):=Rd.byte (W:=w5) rfl 157 (.pointer (some ⟨b,0,none⟩));have k6:=Pc.In.same (Same.gr gA (Nat.le_refl _)) _ _ k5;have xw6:=xw5.alloc (.cells #[.pointer (some ⟨b,0,none⟩)] 157);have h6:=h5.gr gA;have z6:(w5.alloc (.cells #[.pointer (some ⟨b,0,none⟩)] 157)).heap.size=w5.heap.size+1:=by simp
      go_simp;refine hK.out _ _ (λhnz=>?s8) (λ_=>?r8);case s8=>exact hS6
      clear hK K;try simp only[Pu]
      clear gA hS5 own5 kids5 k5 xw5 h5;generalize (w5.alloc (.cells #[.pointer (some ⟨b,0,none⟩)] 157))=w6 at hS6 own6 kids6 hrx k6 xw6 h6 z6 ⊢;refine zs 8 rfl (λK hK=>?_);have hvl:=own6.lt;refine wp_append_rdX (.tmp 34) (.tmp 37) 177 rfl (P+1) 157 i0 _ 1 8 Tryz.underlying177 hi0 hz0 hz1 hz2 rfl (by decide) _ N _ rfl own6 ⟨w5.heap.size,0,none⟩ 1 _ (ptrs [b]) rfl hrx (by decide) (ptrs_one _) (by unfold maxLen;omega) (by omega) (by omega) ?_;intro v' w9 own9 hgr9 hob9;obtain ⟨A9,c9,hv9⟩:=own_form own9;subst hv9;have hS9:=hS6.grown hgr9 (λe=>by have:=hvl _ e;omega);have xw9:=xw6.grown hgr9 (λj hj=>by have:=hvl j hj;omega);have h9:=h6.grown hgr9 (λe=>by have:=hvl _ e;omega);have kids9:=kids6.push hgr9 hob9 k6 (by omega) (by omega) (λj hj=>by have:=hvo j hj;omega);rw[<-ptrs_append] at own9;clear hS6 own6 kids6 hrx k6 xw6 h6 hgr9 hob9;refine hK.out _ _ (λhnz=>?s9) (λ_=>?r9);case s9=>exact hS9
      clear hK K;try simp only[Pu]
      refine zt 9 hS9 ?_;refine zt 10 hS9 ?_;refine zs 11 rfl (λK hK=>?_);obtain ⟨⟨p0,p1,p2,p3,p4⟩,pf,pz⟩:=id hS9;go_simp;refine hK.out _ _ (λhnz=>?s12) (λ_=>?r12);case s12=>exact absurd rfl hnz
      clear hK K;try simp only[Pu]
      refine wpAnyZ_done (by kernel_rfl) ?_ _;clear p0 p1 p2 p3 p4 pf pz;go_roundw;case rel=>exact ⟨_,_,_,_,_,_,_,_,_,_,_,_,_,_,_,_,_,_,_,_,_,_,_,_,_,_,_,_,_,_,_,_,_,_,_,⟨m5,_,k,N+1,c9,A9,l++[(pieceS Wf q).1],bs++[b],⟨h9.other ⟨P,2,none⟩ hPR _,GX.setCell (p:=⟨P,2,none⟩) xw9 (.inr hP) _,hS9.set,own_setX own9 (p:=⟨P,2,none⟩) (Nat.lt_succ_self _) _,kids9.set _ _,by rw[HN.out];simp,hP,Lib.hid (by have:=hc.out;rw[e1] at this;rw[PcL.app_snoc];exact this)⟩,by omega,by omega,hpg.bd hB,by have:=h9.len;omega⟩,rfl⟩
      case measure=>rw[Hmn.out,(h9.other ⟨P,2,none⟩ hPR (.slice A9 (N+1) c9)).n];have:=h9.len;omega
def contS (Wf:Rs->Pc×Rs) (k:Nat) (q:Rs):PcL×Rs:=bif !q.bad&&headIs 124 q.rest then altS Wf k {q with rest:=q.rest.drop 1} else (.nil,q)
theorem altS_cont (Wf:Rs->Pc×Rs) (k:Nat) (q:Rs):altS Wf (k+1) q=(.cons (rowP Wf q).1 (contS Wf k (rowP Wf q).2).1,(contS Wf k (rowP Wf q).2).2):=by
 conv=>lhs;unfold altS
 unfold contS;generalize rowP Wf q=t;simp only;cases (!t.2.bad&&headIs 124 t.2.rest)<;>rfl
structure WysI (R:Nat) (w0:World) (s:ByteArray) (Wf:Rs->Pc×Rs) (T:PcL×Rs) (wr:World) (m:Nat) (q:Rs) (k N c:Nat) (A:Option Addr) (l:List Pc) (bs:List Nat):Prop where
 h:Rdr wr R s m q
 x:GX R w0 wr
 own:wr.ownsRow w0.heap.size 157 1 (.slice A N c) N (ptrs bs)
 kids:Kids (some (w0.heap.size-1)) (Value.slice A N c).ownBlock wr l bs
 hN:N=bs.length
 hc:Hid ((PcL.ofList l).app (contS Wf k q).1=T.1/\(contS Wf k q).2=T.2)
section
variable {R:Nat} {w0:World} {s:ByteArray} {Wf:Rs->Pc×Rs} {T:PcL×Rs} {wr w':World} {m:Nat} {q:Rs} {k N c:Nat} {A:Option Addr} {l:List Pc} {bs:List Nat}
theorem WysI.gr (I:WysI R w0 s Wf T wr m q k N c A l bs) (g:Gr wr w') (hR:R<w0.heap.size):WysI R w0 s Wf T w' m q k N c A l bs:=
 ⟨I.h.gr g,I.x.trans (GX.of_gr g),own_gx I.own (GX.of_gr (R:=R) g) hR,I.kids.gr g,I.hN,I.hc⟩
theorem WysI.single {N':Nat} (I:WysI R w0 s Wf T wr m q k N' c A l bs) (h:N'=1):∃p b,l=[p]/\bs=[b]:=by
 have hN:=I.hN;have hl:=I.kids.1;match l,bs,hl,hN with
 | [p],[b],_,_=>exact ⟨p,b,rfl,rfl⟩
 | [],bs,hl,hN=>simp at hl;omega
 | p::p'::l,bs,hl,hN=>simp at hl;omega
theorem WysI.ret1 {p:Pc} {b:Nat} (I:WysI R w0 s Wf T wr m q k 1 c A [p] [b]) (e:contS Wf k q=(.nil,q)):RetP R s w0 (lone T.1) T.2 (.returned (.pointer (some ⟨b,0,none⟩))) wr:=by
 have hc:=I.hc.out;rw[e] at hc;simp only[PcL.app_nil] at hc;rw[<-hc.1,<-hc.2];have hk:=I.kids.list;simp only[PcL.ofList,PcL.In] at hk;obtain ⟨b',r,e',hp,_⟩:=hk;injection e' with e' _;subst e';exact ⟨b,m,rfl,hp,I.x,I.h⟩
theorem lone_ways (l:List Pc) (h:l.length≠1):lone (PcL.ofList l)= .ways (PcL.ofList l):=by
 match l,h with
 | [],_=>rfl
 | [p],h=>simp at h
 | p::p'::l,_=>rfl
theorem WysI.ret2 (I:WysI R w0 s Wf T wr m q k N c A l bs) (e:contS Wf k q=(.nil,q)) (h1:N≠1) (hR0:R<w0.heap.size):RetP R s w0 (lone T.1) T.2 (.returned (.pointer (some ⟨wr.heap.size,0,none⟩))) (wr.alloc (.cells #[.int .i64 11, .string ⟨#[]⟩, .slice A N c, .int .i64 0, .bool false] 179)):=by
 have hc:=I.hc.out;rw[e] at hc;simp only[PcL.app_nil] at hc;have hN:=I.hN;subst hN;rw[<-hc.1,<-hc.2,lone_ways l (by rw[I.kids.1];exact h1)];have g:Gr wr (wr.alloc (.cells #[.int .i64 11, .string ⟨#[]⟩, .slice A bs.length c, .int .i64 0, .bool false] 179)):=Gr.alloc (Gr.refl _) _;have hx:=I.x.size;refine ⟨wr.heap.size,m,rfl,?_,I.x.alloc _,I.h.gr g⟩;simp only[Pc.In];have hR:=I.h.lt;have hzz:w0.heap.size-1<wr.heap.size:=by omega
 refine ⟨hzz,by simp, .slice A bs.length c,bs,node_new wr 11 0 [] _ false,⟨A,c,rfl,?_,λh0 ad ha=>?_⟩,PcL.In.wide (Nat.le_refl _) g.size _ _ (PcL.In.same (Same.gr g (Nat.le_refl _)) _ _ I.kids.list)⟩
 ·exact Rd.gr (Rd.own I.own) g
 ·obtain ⟨_,⟨hv,h0'⟩|⟨g',cap,cur,hv,hb,hh,_⟩⟩:=I.own
  ·omega
  ·injection hv with hv1 _ _;rw[ha] at hv1;injection hv1 with hv1;subst hv1;have:=(Array.getElem?_eq_some_iff.1 hh).1;exact ⟨by show w0.heap.size-1<g';omega,by show g'<_;simp;omega⟩
end
theorem ways_row {w:World} {R n0:Nat} {s:ByteArray} {q:Rs} (Wf:Rs->Pc×Rs) (hWf:∀s,Gd 0 s (Wf s).2) (h:Rdr w R s n0 q) (hs:(s.size:Int)<=4096) (n:Nat) (hn:q.rest.length<=n) (hB:BdX q)
  (HR:∀W m q,Rdr W R s m q->q.rest.length<=n->BdX q->Calls Tryz.prog 108 #[.pointer (some ⟨R,0,none⟩)] W (RetP R s W (rowP Wf q).1 (rowP Wf q).2)) :
  Calls Tryz.prog 79 #[.pointer (some ⟨R,0,none⟩)] w (RetP R s w (lone (altS Wf (q.rest.length+1) q).1) (altS Wf (q.rest.length+1) q).2):=by
 obtain ⟨i0,hi0,hz0,hz1,hz2⟩:=info_parts info_ptr;have hgd:∀q,Gd 0 q (rowP Wf q).2:=λq=>rowS_gd hWf _ q;rw[altS_cont];obtain ⟨T,hT⟩:∃T,(PcL.cons (rowP Wf q).1 (contS Wf q.rest.length (rowP Wf q).2).1,(contS Wf q.rest.length (rowP Wf q).2).2)=T:=⟨_,rfl⟩
 rw[hT];have HT:=Lib.hid hT;clear hT;have hR:=h.lt;have QR:=HR _ _ _ h hn hB;go_enter Tryz.func79,Tryz.ntmps79;go_upto_region 2 with (go_at_call 108;refine QR.mono ?_;rintro e w5 ⟨b,m5,rfl,k5,x5,h5⟩)
 have I0:WysI R w s Wf T (w5.alloc (.cells #[.pointer (some ⟨b,0,none⟩)] 157)) m5 (rowP Wf q).2 q.rest.length 1 1 (some ⟨w5.heap.size,0,none⟩) [(rowP Wf q).1] [b]:=by
  have gA:Gr w5 (w5.alloc (.cells #[.pointer (some ⟨b,0,none⟩)] 157)):=Gr.alloc (Gr.refl w5) _;have z5:=x5.size;refine ⟨h5.gr gA,x5.alloc _,World.ownsRow_lit w5 #[.pointer (some ⟨b,0,none⟩)] 1 z5 (by unfold maxLen;omega) (by simp),⟨rfl,λi hi hi'=>?_⟩,rfl,Lib.hid (by rw[<-HT.out];exact ⟨rfl,rfl⟩)⟩;have:i=0:=by simp at hi;exact hi
  subst this;refine ⟨w.heap.size-1,w5.heap.size,Pc.In.same (Same.gr gA (Nat.le_refl _)) _ _ k5,λk hk=>by injection hk with hk;omega,gA.size,λk hk=> .inr ?_⟩;injection hk with hk;show w5.heap.size<=k;exact Nat.le_of_eq hk
 have hl0:=(hgd q).r;have hB0:=(hgd q).bd hB;have hm0:1<=m5+1:=by omega
 clear k5 x5 h5 QR h;generalize (w5.alloc (.cells #[.pointer (some ⟨b,0,none⟩)] 157))=w1 at I0 ⊢
 go_loopw [3] (λv wr=>∃m q k N c A l bs,v= .slice A N c/\WysI R w s Wf T wr m q k N c A l bs/\q.rest.length<=k/\q.rest.length<=n/\BdX q/\N<=m+1) (λ_ wr=>s.size-rdN R wr)
 case atStart=>exact ⟨m5,_,_,1,1,_,_,_,rfl,I0,hl0,by omega,hB0,hm0⟩
 case round=>
  clear I0 hl0 hB0 hm0 hB hn HT;obtain ⟨m,q,k,N,c,A,l,bs,rfl,I,hk,hqn,hB,hNm⟩:=hrel;have Hmn:=Lib.hid I.h.n;have hlen:=I.h.len;obtain ⟨c4,f4⟩:=And.intro I.h.c4 I.h.f4;rcases Bool.eq_false_or_eq_true q.bad with hb|hb
  ·rw[hb] at c4;have HE:Hid ((!q.bad&&headIs 124 q.rest)=false):=Lib.hid (by rw[hb];rfl);have e1:contS Wf k q=(.nil,q):=by unfold contS;rw[HE.out];rfl
   by_cases h1:N=1
   ·obtain ⟨p,b,rfl,rfl⟩:=I.single h1;subst h1;obtain ⟨g',rfl⟩:∃g',A=some ⟨g',0,none⟩:=by
     obtain ⟨_,⟨_,h0'⟩|⟨g',cap,cur,hv,_⟩⟩:=I.own
     ·cases h0'
     ·injection hv with hv1 _ _;exact ⟨g',hv1⟩
    have hc0:_=some (Value.pointer (some ⟨b,0,none⟩)):=I.own.cellAt 0 (by decide);go_wp2;go_ret;exact I.ret1 e1
   ·have hN1:((N:Int)==1)=false:=beq_eq_false_iff_ne.2 (by omega);have HR:=I.ret2 e1 h1 hR;go_wp2;go_ret;exact HR
  ·rw[hb] at c4;cases h124:headIs 124 q.rest
   ·have QT:=takes_no I.h hs 124 (by decide) h124;have HE:Hid ((!q.bad&&headIs 124 q.rest)=false):=Lib.hid (by rw[hb,h124];rfl);go_upto_region 4 with (go_at_call 109;refine QT.mono ?_;rintro e w4 ⟨rfl,g4⟩)
    have I:=I.gr g4 hR;have e1:contS Wf k q=(.nil,q):=by unfold contS;rw[HE.out];rfl
    by_cases h1:N=1
    ·obtain ⟨p,b,rfl,rfl⟩:=I.single h1;subst h1;obtain ⟨g',rfl⟩:∃g',A=some ⟨g',0,none⟩:=by
      obtain ⟨_,⟨_,h0'⟩|⟨g',cap,cur,hv,_⟩⟩:=I.own
      ·cases h0'
      ·injection hv with hv1 _ _;exact ⟨g',hv1⟩
     have hc0:_=some (Value.pointer (some ⟨b,0,none⟩)):=I.own.cellAt 0 (by decide);go_wp2;go_ret;exact I.ret1 e1
    ·have hN1:((N:Int)==1)=false:=beq_eq_false_iff_ne.2 (by omega);have HR:=I.ret2 e1 h1 hR;go_wp2;go_ret;exact HR
   ·have QT:=takes_yes I.h hs 124 (by decide) h124;obtain ⟨d,r,hq, -⟩:=headIs_cons h124;have hl1:q.rest.length=r.length+1:=by rw[hq];rfl
    have hd1:q.rest.drop 1=r:=by rw[hq];rfl
    obtain ⟨k,rfl⟩:∃j,k=j+1:=⟨k-1,by omega⟩
    have e1:contS Wf (k+1) q=(.cons (rowP Wf {q with rest:=r}).1 (contS Wf k (rowP Wf {q with rest:=r}).2).1,(contS Wf k (rowP Wf {q with rest:=r}).2).2):=by
     conv=>lhs;unfold contS
     rw[hb,h124,hd1];have e2:({rest:=r,groups:=q.groups,deep:=q.deep,bad:=false,over:=q.over}:Rs)={q with rest:=r}:=by rw[hb]
     rw[e2,altS_cont];rfl
    rw[hd1] at QT;have hB2:BdX {q with rest:=r}:=⟨by have:=hB.1;simp only;omega,by have:=hB.2;simp only;omega⟩
    have hg:=hgd {q with rest:=r};have hgr:=hg.r;simp only at hgr;have HN:=Lib.hid I.hN;go_upto_region 3 with (go_at_call 109;refine QT.mono ?_;rintro e w4 ⟨rfl,x4,h4⟩)
    have own4:=own_gx I.own x4 hR;have kids4:=I.kids.gx x4 (by omega);have xw4:=I.x.trans x4;have QR:=HR _ _ _ h4 (by simp only;omega) hB2;have hc:=I.hc;clear I QT c4 f4 x4 h4;go_wp2_with (first
     | (go_at_call 108;refine QR.mono ?_;rintro e w5 ⟨b,m5,rfl,k5,x5,h5⟩;have gA:Gr w5 (w5.alloc (.cells #[.pointer (some ⟨b,0,none⟩)] 157)):=Gr.alloc (Gr.refl w5) _;have own6:=own_gx (own_gx own4 x5 hR) (GX.of_gr (R:=R) gA) hR;have kids6:=(kids4.gx x5 (by omega)).gr gA;have hrx:Rd (w5.alloc (.cells #[.pointer (some ⟨b,0,none⟩)] 157)) 1 (some ⟨w5.heap.size,0,none⟩) 1 (ptrs [b]):=Rd.byte (W:=w5) rfl 157 (.pointer (some ⟨b,0,none⟩));have k6:=Pc.In.same (Same.gr gA (Nat.le_refl _)) _ _ k5;have xw6:=(xw4.trans x5).trans (GX.of_gr gA);have h6:=h5.gr gA;have z6:(w5.alloc (.cells #[.pointer (some ⟨b,0,none⟩)] 157)).heap.size=w5.heap.size+1:=(by simp);have z5:=x5.size;have zw4:=xw4.size;have hvo:=own4.lt;have hvl:=own6.lt;have hm5:=h6.len)
     | (at_builtin;refine wpList_append_rd rfl (.tmp 18) (.tmp 21) 177 rfl w.heap.size 157 i0 _ 1 8 Tryz.underlying177 hi0 hz0 hz1 hz2 rfl (by decide) _ N _ rfl own6 (some ⟨w5.heap.size,0,none⟩) 1 1 (ptrs [b]) rfl hrx (ptrs_one _) (by unfold maxLen;omega) (by omega) (by omega) ?_;intro v' w9 own9 hgr9 hob9;obtain ⟨A9,c9,hv9⟩:=own_form own9;subst hv9))
    have xw9:=xw6.grown hgr9 (λj hj=>(hvl j hj).1);have h9:=h6.grown hgr9 (λe=>by have:=hvl _ e;omega);have kids9:=kids6.push hgr9 hob9 k6 (by omega) (by omega) (λj hj=>by have:=hvo j hj;omega);rw[<-ptrs_append] at own9;go_roundw;case rel=>exact ⟨m5,_,k,N+1,c9,A9,l++[(rowP Wf {q with rest:=r}).1],bs++[b],rfl,⟨h9,xw9,own9,kids9,by rw[HN.out];simp,Lib.hid (by have:=hc.out;rw[e1] at this;rw[PcL.app_snoc];exact this)⟩,by omega,by omega,hg.bd hB2,by omega⟩
    case measure=>rw[Hmn.out,h9.n];omega
theorem ways_all {R:Nat} {s:ByteArray} (hs:(s.size:Int)<=4096) (n:Nat):∀(W:World) (m:Nat) (q:Rs),Rdr W R s m q->q.rest.length<n->BdX q->
  Calls Tryz.prog 79 #[.pointer (some ⟨R,0,none⟩)] W (RetP R s W (waysS n q).1 (waysS n q).2):=by
 induction n with
 | zero=>intro W m q _ h;exact absurd h (Nat.not_lt_zero _)
 | succ n ih=>
  intro W m q h hq hB;refine ways_row (waysS n) (waysS_gd n) h hs n (Nat.le_of_lt_succ hq) hB λW m q h hq hB=>?_;refine row_any (waysS n) (waysS_gd n) h hs n hq hB λW m q c r h hr hq hB=>?_;have hl:q.rest.length=r.length+1:=by rw[hr];rfl
  have hb1:=hB.1;have hb2:=hB.2;refine piece_all (waysS n) h hs hr λW h=>?_;refine group_all (waysS n) (waysS_gd n) h hs (by simp only;omega) (by simp only;omega) λW m h=>?_;obtain ⟨o1,o2,o3, -⟩:=openS_gd {q with rest:=r,deep:=q.deep+1};simp only at o1 o2 o3;exact ih W m _ h (by simp only;omega) ⟨by simp only;omega,by simp only;omega⟩
end Go.Proofs.YtjapddfnpmlifaaGreatDoor
