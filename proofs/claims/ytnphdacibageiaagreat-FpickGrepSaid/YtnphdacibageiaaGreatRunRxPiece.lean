import Derived.Test.YtnphdacibageiaaGreatRunRxFail
import Derived.Test.YtnphdacibageiaaGreatRxShelf
import Derived.Test.YtnphdacibageiaaGreatRunFpRow
import Derived.OwnWalk
set_option linter.all false
set_option maxRecDepth 1000000
set_option maxHeartbeats 12800000
namespace Go.Proofs.YtnphdacibageiaaGreat
open Go.RowKit
theorem Rkn.one {R b lo:Nat} {w3 w5:World} (T:TypeId) (y:GX R (w3.alloc (.cells #[.pointer (some ⟨b,0,none⟩)] T)) w5) (hR:R<w3.heap.size) (hlo:lo<w3.heap.size):Rkn lo w5.heap.size w5 (.slice (some ⟨w3.heap.size,0,none⟩) 1 1) [b]:=by
 have h0:=Rd.byte (W:=w3) rfl T (.pointer (some ⟨b,0,none⟩))
 have hz:=y.size
 simp at hz
 refine ⟨some ⟨w3.heap.size,0,none⟩,1,rfl,Rd.gx h0 y (fun _ ad ha=>by injection ha with ha;subst ha;simp;omega),fun _ ad ha=>?_⟩
 injection ha with ha
 subst ha
 exact ⟨hlo,by simp;omega⟩
theorem RetP.rep {R b m:Nat} {s:ByteArray} {w w3 w5:World} {p:Pc} {q:Rs} (T:TypeId) (op:Nat) (z:Bool) (hR:R<w.heap.size) (x:GX R w w3) (k:p.In (w.heap.size-1) w3.heap.size w3 b) (y:GX R (w3.alloc (.cells #[.pointer (some ⟨b,0,none⟩)] T)) w5) (h:Rdr w5 R s m q) :
  RetP R s w (.rep op z p) q (.returned (.pointer (some ⟨w5.heap.size,0,none⟩))) (w5.alloc (.cells #[.int .i64 op, .string ⟨#[]⟩, .slice (some ⟨w3.heap.size,0,none⟩) 1 1, .int .i64 0, .bool z] 112)):=by
 have hx:=x.size
 have y1:GX R (w3.alloc (.cells #[.pointer (some ⟨b,0,none⟩)] T)) (w5.alloc (.cells #[.int .i64 op, .string ⟨#[]⟩, .slice (some ⟨w3.heap.size,0,none⟩) 1 1, .int .i64 0, .bool z] 112)):=y.alloc _
 have y2:GX R w3 (w5.alloc (.cells #[.int .i64 op, .string ⟨#[]⟩, .slice (some ⟨w3.heap.size,0,none⟩) 1 1, .int .i64 0, .bool z] 112)):=(GX.of_gr (Gr.alloc (Gr.refl w3) _)).trans y1
 have hy:=y2.size
 refine ⟨_,m,rfl,?_,x.trans y2,h.gr (Gr.alloc (Gr.refl _) _)⟩
 have hz:=y.size
 simp at hz
 simp only[Pc.In]
 exact ⟨by omega,by simp,_,b,node_new w5 op 0 [] _ z,Rkn.one T y1 (by omega) (by omega),Pc.In.wide (Nat.le_refl _) hy _ _ (Pc.In.same (Same.gx y2 (Nat.le_refl _) (by omega)) _ _ k)⟩
theorem now_free {w:World} {R n:Nat} {s:ByteArray} {q:Rs} (h:Rdr w R s n q) (hs:(s.size:Int)≤4096) :
  Calls Tryz.prog 106 #[.pointer (some ⟨R,0,none⟩)] w fun e w'=>∃(c:Nat) (z:Bool),e= .returned (.tuple #[.int .u8 c, .bool z])∧Gr w w':=by
 match e:q.rest with
 | []=>exact (now_end h hs e).mono fun e w' h=>⟨0,false,h.1,h.2⟩
 | c::r=>exact (now_some h hs e).mono fun e w' h=>⟨c.toNat,true,h.1,h.2⟩
theorem atom_all {w:World} {R n:Nat} {s:ByteArray} {q:Rs} (Wf:Rs→Pc×Rs) (h:Rdr w R s n q) (hs:(s.size:Int)≤4096) {c:UInt8} {r:List UInt8} (hq:q.rest=c::r)
  (HG:∀W,Rdr W R s (n+1) {q with rest:=r}→Calls Tryz.prog 138 #[.pointer (some ⟨R,0,none⟩)] W (RetP R s W (groupS Wf {q with rest:=r}).1 (groupS Wf {q with rest:=r}).2)) :
  Calls Tryz.prog 128 #[.pointer (some ⟨R,0,none⟩)] w (RetP R s w (atomS Wf q).1 (atomS Wf q).2):=by
 unfold atomS
 rw[hq]
 simp only
 by_cases h40:c.toNat=40
 ·
  rw[show (c.toNat==40)=true from by rw[h40];rfl];exact atom_group h hs hq h40 _ _ HG
 by_cases h94:c.toNat=94
 ·
  simp only[h94,Nat.reduceBEq,cond_true,cond_false];exact atom_begin h hs hq h94
 by_cases h36:c.toNat=36
 ·
  simp only[h36,Nat.reduceBEq,cond_true,cond_false];exact atom_end h hs hq h36
 by_cases h46:c.toNat=46
 ·
  simp only[h46,Nat.reduceBEq,cond_true,cond_false];exact atom_any h hs hq h46
 by_cases h91:c.toNat=91
 ·
  simp only[h91,Nat.reduceBEq,cond_true,cond_false];exact atom_class h hs hq h91 _ rfl
 by_cases h92:c.toNat=92
 ·
  simp only[h92,Nat.reduceBEq,cond_true,cond_false];exact atom_esc h hs hq h92 _ rfl
 rw[beq_eq_false_iff_ne.2 h40,beq_eq_false_iff_ne.2 h94,beq_eq_false_iff_ne.2 h36,beq_eq_false_iff_ne.2 h46,beq_eq_false_iff_ne.2 h91,beq_eq_false_iff_ne.2 h92]
 simp only[cond_false]
 by_cases h124:c.toNat=124
 ·
  rw[h124];exact atom_stop124 h hs hq h124
 by_cases h63:c.toNat=63
 ·
  rw[h63];exact atom_stop63 h hs hq h63
 by_cases h42:c.toNat=42
 ·
  rw[h42];exact atom_stop42 h hs hq h42
 by_cases h43:c.toNat=43
 ·
  rw[h43];exact atom_stop43 h hs hq h43
 by_cases h41:c.toNat=41
 ·
  rw[h41];exact atom_stop41 h hs hq h41
 have hst:stopC c.toNat=false:=by
  unfold stopC
  rw[beq_eq_false_iff_ne.2 h124,beq_eq_false_iff_ne.2 h63,beq_eq_false_iff_ne.2 h42,beq_eq_false_iff_ne.2 h43,beq_eq_false_iff_ne.2 h41]
  rfl
 rw[hst]
 exact atom_else h hs hq (by simp only[List.mem_cons,List.not_mem_nil,or_false,forall_eq_or_imp,forall_eq];exact ⟨h40,h94,h36,h46,h91,h92,h124,h63,h42,h43,h41⟩)
theorem piece_bad {w:World} {R n:Nat} {s:ByteArray} {q:Rs} (h:Rdr w R s n q) (hs:(s.size:Int)≤4096) (A:Pc) (t:Rs) (HA:Calls Tryz.prog 128 #[.pointer (some ⟨R,0,none⟩)] w (RetP R s w A t)) (hb:t.bad=true) :
  Calls Tryz.prog 107 #[.pointer (some ⟨R,0,none⟩)] w (RetP R s w (A) t):=by
 have hR:=h.lt
 clear h
 go_enter Tryz.func107,Tryz.ntmps107
 go_upto_region 2 with (go_at_call 128;refine HA.mono ?_;rintro e w3 ⟨b,m,rfl,k,x,h3⟩)
 clear HA
 have QN:=now_free h3 hs
 go_upto_region 3 with (go_at_call 106;refine QN.mono ?_;rintro e w4 ⟨c,z,rfl,g4⟩)
 have h4:=h3.gr g4
 clear QN
 obtain ⟨c4,f4⟩:=And.intro h4.c4 h4.f4
 rw[hb] at c4
 go_wp2
 go_ret
 exact ⟨b,m,rfl,Pc.In.wide (Nat.le_refl _) g4.size _ _ (Pc.In.same (Same.gr g4 (Nat.le_refl _)) _ _ k),x.trans (GX.of_gr g4),h4⟩
theorem piece_end {w:World} {R n:Nat} {s:ByteArray} {q:Rs} (h:Rdr w R s n q) (hs:(s.size:Int)≤4096) (A:Pc) (t:Rs) (HA:Calls Tryz.prog 128 #[.pointer (some ⟨R,0,none⟩)] w (RetP R s w A t)) (hb:t.bad=false) (ht:t.rest=[]) :
  Calls Tryz.prog 107 #[.pointer (some ⟨R,0,none⟩)] w (RetP R s w (A) t):=by
 have hR:=h.lt
 clear h
 go_enter Tryz.func107,Tryz.ntmps107
 go_upto_region 2 with (go_at_call 128;refine HA.mono ?_;rintro e w3 ⟨b,m,rfl,k,x,h3⟩)
 clear HA
 have QN:=now_end h3 hs ht
 go_upto_region 3 with (go_at_call 106;refine QN.mono ?_;rintro e w4 ⟨rfl,g4⟩)
 have h4:=h3.gr g4
 clear QN
 obtain ⟨c4,f4⟩:=And.intro h4.c4 h4.f4
 rw[hb] at c4
 go_wp2
 go_ret
 exact ⟨b,m,rfl,Pc.In.wide (Nat.le_refl _) g4.size _ _ (Pc.In.same (Same.gr g4 (Nat.le_refl _)) _ _ k),x.trans (GX.of_gr g4),h4⟩
theorem piece_no {w:World} {R n:Nat} {s:ByteArray} {q:Rs} (h:Rdr w R s n q) (hs:(s.size:Int)≤4096) (A:Pc) (t:Rs) (HA:Calls Tryz.prog 128 #[.pointer (some ⟨R,0,none⟩)] w (RetP R s w A t)) (hb:t.bad=false) {d:UInt8} {r:List UInt8} (ht:t.rest=d::r) (hd:d.toNat≠42∧d.toNat≠43∧d.toNat≠63) :
  Calls Tryz.prog 107 #[.pointer (some ⟨R,0,none⟩)] w (RetP R s w (A) t):=by
 have hR:=h.lt
 clear h
 obtain ⟨d42,d43,d63⟩:=hd
 have k42:((d.toNat:Int) != 42)=true:=by simp;omega
 have k43:((d.toNat:Int) != 43)=true:=by simp;omega
 have k63:((d.toNat:Int) != 63)=true:=by simp;omega
 go_enter Tryz.func107,Tryz.ntmps107
 go_upto_region 2 with (go_at_call 128;refine HA.mono ?_;rintro e w3 ⟨b,m,rfl,k,x,h3⟩)
 clear HA
 have QN:=now_some h3 hs ht
 go_upto_region 3 with (go_at_call 106;refine QN.mono ?_;rintro e w4 ⟨rfl,g4⟩)
 have h4:=h3.gr g4
 clear QN
 obtain ⟨c4,f4⟩:=And.intro h4.c4 h4.f4
 rw[hb] at c4
 go_wp2
 go_ret
 exact ⟨b,m,rfl,Pc.In.wide (Nat.le_refl _) g4.size _ _ (Pc.In.same (Same.gr g4 (Nat.le_refl _)) _ _ k),x.trans (GX.of_gr g4),h4⟩
theorem piece_rep42true {w:World} {R n:Nat} {s:ByteArray} {q:Rs} (h:Rdr w R s n q) (hs:(s.size:Int)≤4096) (A:Pc) (t:Rs) (HA:Calls Tryz.prog 128 #[.pointer (some ⟨R,0,none⟩)] w (RetP R s w A t)) (hb:t.bad=false) {d:UInt8} {r:List UInt8} (ht:t.rest=d::r) (hd:d.toNat=42) (hz:headIs 63 r=true) :
  Calls Tryz.prog 107 #[.pointer (some ⟨R,0,none⟩)] w (RetP R s w (.rep 42 true A) {t with rest:=r.drop 1}):=by
 have hR:=h.lt
 clear h
 go_enter Tryz.func107,Tryz.ntmps107
 go_upto_region 2 with (go_at_call 128;refine HA.mono ?_;rintro e w3 ⟨b,m,rfl,k,x,h3⟩)
 clear HA
 have QN:=now_some h3 hs ht
 simp only[hd] at QN
 go_upto_region 3 with (go_at_call 106;refine QN.mono ?_;rintro e w4 ⟨rfl,g4⟩)
 have h4:=h3.gr g4
 clear QN
 obtain ⟨c4,f4⟩:=And.intro h4.c4 h4.f4
 rw[hb] at c4
 have hle:=h4.len
 rw[ht] at hle
 simp at hle
 have hm:(m:Int)<4096:=by omega
 have hwr:=wrap_in ((m:Int)+1) (by omega) (by omega)
 clear hle
 go_upto_region 5 with (fail)
 obtain ⟨c1,f1⟩:=And.intro h4.c1 h4.f1
 clear c4 f4
 go_upto_region 6 with (fail)
 have h5:=h4.next ht
 have x5:GX R w (w4.setCell ⟨R,1,none⟩ (.int .i64 ((m:Int)+1))):=GX.setCell (p:=⟨R,1,none⟩) (x.trans (GX.of_gr g4)) (.inl rfl) _
 have k5:=Pc.In.same (Same.gx (GX.setCell (p:=⟨R,1,none⟩) (GX.of_gr (R:=R) g4) (.inl rfl) (.int .i64 ((m:Int)+1))) (Nat.le_refl _) (by omega)) _ _ k
 have k6:=Pc.In.wide (Nat.le_refl _) (GX.setCell (p:=⟨R,1,none⟩) (GX.of_gr (R:=R) g4) (.inl rfl) (.int .i64 ((m:Int)+1))).size _ _ k5
 clear c1 f1 h4 g4 h3 x k k5 hwr
 generalize (w4.setCell ⟨R,1,none⟩ (.int .i64 ((m:Int)+1)))=w6 at h5 x5 k6 ⊢
 have Q7:=fun o=>takes_yes (h5.gr (Gr.alloc (Gr.refl w6) o)) hs 63 (by decide) hz
 go_wp2_with (go_at_call 79;refine (Q7 _).mono ?_;rintro e w8 ⟨rfl,x8,h8⟩)
 go_ret
 exact RetP.rep _ 42 true hR x5 k6 x8 h8
theorem piece_rep42false {w:World} {R n:Nat} {s:ByteArray} {q:Rs} (h:Rdr w R s n q) (hs:(s.size:Int)≤4096) (A:Pc) (t:Rs) (HA:Calls Tryz.prog 128 #[.pointer (some ⟨R,0,none⟩)] w (RetP R s w A t)) (hb:t.bad=false) {d:UInt8} {r:List UInt8} (ht:t.rest=d::r) (hd:d.toNat=42) (hz:headIs 63 r=false) :
  Calls Tryz.prog 107 #[.pointer (some ⟨R,0,none⟩)] w (RetP R s w (.rep 42 false A) {t with rest:=r}):=by
 have hR:=h.lt
 clear h
 go_enter Tryz.func107,Tryz.ntmps107
 go_upto_region 2 with (go_at_call 128;refine HA.mono ?_;rintro e w3 ⟨b,m,rfl,k,x,h3⟩)
 clear HA
 have QN:=now_some h3 hs ht
 simp only[hd] at QN
 go_upto_region 3 with (go_at_call 106;refine QN.mono ?_;rintro e w4 ⟨rfl,g4⟩)
 have h4:=h3.gr g4
 clear QN
 obtain ⟨c4,f4⟩:=And.intro h4.c4 h4.f4
 rw[hb] at c4
 have hle:=h4.len
 rw[ht] at hle
 simp at hle
 have hm:(m:Int)<4096:=by omega
 have hwr:=wrap_in ((m:Int)+1) (by omega) (by omega)
 clear hle
 go_upto_region 5 with (fail)
 obtain ⟨c1,f1⟩:=And.intro h4.c1 h4.f1
 clear c4 f4
 go_upto_region 6 with (fail)
 have h5:=h4.next ht
 have x5:GX R w (w4.setCell ⟨R,1,none⟩ (.int .i64 ((m:Int)+1))):=GX.setCell (p:=⟨R,1,none⟩) (x.trans (GX.of_gr g4)) (.inl rfl) _
 have k5:=Pc.In.same (Same.gx (GX.setCell (p:=⟨R,1,none⟩) (GX.of_gr (R:=R) g4) (.inl rfl) (.int .i64 ((m:Int)+1))) (Nat.le_refl _) (by omega)) _ _ k
 have k6:=Pc.In.wide (Nat.le_refl _) (GX.setCell (p:=⟨R,1,none⟩) (GX.of_gr (R:=R) g4) (.inl rfl) (.int .i64 ((m:Int)+1))).size _ _ k5
 clear c1 f1 h4 g4 h3 x k k5 hwr
 generalize (w4.setCell ⟨R,1,none⟩ (.int .i64 ((m:Int)+1)))=w6 at h5 x5 k6 ⊢
 have Q7:=fun o=>takes_no (h5.gr (Gr.alloc (Gr.refl w6) o)) hs 63 (by decide) hz
 go_wp2_with (go_at_call 79;refine (Q7 _).mono ?_;rintro e w8 ⟨rfl,g8⟩;have x8:=GX.of_gr (R:=R) g8;have h8:=(h5.gr (Gr.alloc (Gr.refl w6) _)).gr g8)
 go_ret
 exact RetP.rep _ 42 false hR x5 k6 x8 h8
theorem piece_rep43true {w:World} {R n:Nat} {s:ByteArray} {q:Rs} (h:Rdr w R s n q) (hs:(s.size:Int)≤4096) (A:Pc) (t:Rs) (HA:Calls Tryz.prog 128 #[.pointer (some ⟨R,0,none⟩)] w (RetP R s w A t)) (hb:t.bad=false) {d:UInt8} {r:List UInt8} (ht:t.rest=d::r) (hd:d.toNat=43) (hz:headIs 63 r=true) :
  Calls Tryz.prog 107 #[.pointer (some ⟨R,0,none⟩)] w (RetP R s w (.rep 43 true A) {t with rest:=r.drop 1}):=by
 have hR:=h.lt
 clear h
 go_enter Tryz.func107,Tryz.ntmps107
 go_upto_region 2 with (go_at_call 128;refine HA.mono ?_;rintro e w3 ⟨b,m,rfl,k,x,h3⟩)
 clear HA
 have QN:=now_some h3 hs ht
 simp only[hd] at QN
 go_upto_region 3 with (go_at_call 106;refine QN.mono ?_;rintro e w4 ⟨rfl,g4⟩)
 have h4:=h3.gr g4
 clear QN
 obtain ⟨c4,f4⟩:=And.intro h4.c4 h4.f4
 rw[hb] at c4
 have hle:=h4.len
 rw[ht] at hle
 simp at hle
 have hm:(m:Int)<4096:=by omega
 have hwr:=wrap_in ((m:Int)+1) (by omega) (by omega)
 clear hle
 go_upto_region 5 with (fail)
 obtain ⟨c1,f1⟩:=And.intro h4.c1 h4.f1
 clear c4 f4
 go_upto_region 6 with (fail)
 have h5:=h4.next ht
 have x5:GX R w (w4.setCell ⟨R,1,none⟩ (.int .i64 ((m:Int)+1))):=GX.setCell (p:=⟨R,1,none⟩) (x.trans (GX.of_gr g4)) (.inl rfl) _
 have k5:=Pc.In.same (Same.gx (GX.setCell (p:=⟨R,1,none⟩) (GX.of_gr (R:=R) g4) (.inl rfl) (.int .i64 ((m:Int)+1))) (Nat.le_refl _) (by omega)) _ _ k
 have k6:=Pc.In.wide (Nat.le_refl _) (GX.setCell (p:=⟨R,1,none⟩) (GX.of_gr (R:=R) g4) (.inl rfl) (.int .i64 ((m:Int)+1))).size _ _ k5
 clear c1 f1 h4 g4 h3 x k k5 hwr
 generalize (w4.setCell ⟨R,1,none⟩ (.int .i64 ((m:Int)+1)))=w6 at h5 x5 k6 ⊢
 have Q7:=fun o=>takes_yes (h5.gr (Gr.alloc (Gr.refl w6) o)) hs 63 (by decide) hz
 go_wp2_with (go_at_call 79;refine (Q7 _).mono ?_;rintro e w8 ⟨rfl,x8,h8⟩)
 go_ret
 exact RetP.rep _ 43 true hR x5 k6 x8 h8
theorem piece_rep43false {w:World} {R n:Nat} {s:ByteArray} {q:Rs} (h:Rdr w R s n q) (hs:(s.size:Int)≤4096) (A:Pc) (t:Rs) (HA:Calls Tryz.prog 128 #[.pointer (some ⟨R,0,none⟩)] w (RetP R s w A t)) (hb:t.bad=false) {d:UInt8} {r:List UInt8} (ht:t.rest=d::r) (hd:d.toNat=43) (hz:headIs 63 r=false) :
  Calls Tryz.prog 107 #[.pointer (some ⟨R,0,none⟩)] w (RetP R s w (.rep 43 false A) {t with rest:=r}):=by
 have hR:=h.lt
 clear h
 go_enter Tryz.func107,Tryz.ntmps107
 go_upto_region 2 with (go_at_call 128;refine HA.mono ?_;rintro e w3 ⟨b,m,rfl,k,x,h3⟩)
 clear HA
 have QN:=now_some h3 hs ht
 simp only[hd] at QN
 go_upto_region 3 with (go_at_call 106;refine QN.mono ?_;rintro e w4 ⟨rfl,g4⟩)
 have h4:=h3.gr g4
 clear QN
 obtain ⟨c4,f4⟩:=And.intro h4.c4 h4.f4
 rw[hb] at c4
 have hle:=h4.len
 rw[ht] at hle
 simp at hle
 have hm:(m:Int)<4096:=by omega
 have hwr:=wrap_in ((m:Int)+1) (by omega) (by omega)
 clear hle
 go_upto_region 5 with (fail)
 obtain ⟨c1,f1⟩:=And.intro h4.c1 h4.f1
 clear c4 f4
 go_upto_region 6 with (fail)
 have h5:=h4.next ht
 have x5:GX R w (w4.setCell ⟨R,1,none⟩ (.int .i64 ((m:Int)+1))):=GX.setCell (p:=⟨R,1,none⟩) (x.trans (GX.of_gr g4)) (.inl rfl) _
 have k5:=Pc.In.same (Same.gx (GX.setCell (p:=⟨R,1,none⟩) (GX.of_gr (R:=R) g4) (.inl rfl) (.int .i64 ((m:Int)+1))) (Nat.le_refl _) (by omega)) _ _ k
 have k6:=Pc.In.wide (Nat.le_refl _) (GX.setCell (p:=⟨R,1,none⟩) (GX.of_gr (R:=R) g4) (.inl rfl) (.int .i64 ((m:Int)+1))).size _ _ k5
 clear c1 f1 h4 g4 h3 x k k5 hwr
 generalize (w4.setCell ⟨R,1,none⟩ (.int .i64 ((m:Int)+1)))=w6 at h5 x5 k6 ⊢
 have Q7:=fun o=>takes_no (h5.gr (Gr.alloc (Gr.refl w6) o)) hs 63 (by decide) hz
 go_wp2_with (go_at_call 79;refine (Q7 _).mono ?_;rintro e w8 ⟨rfl,g8⟩;have x8:=GX.of_gr (R:=R) g8;have h8:=(h5.gr (Gr.alloc (Gr.refl w6) _)).gr g8)
 go_ret
 exact RetP.rep _ 43 false hR x5 k6 x8 h8
theorem piece_rep63true {w:World} {R n:Nat} {s:ByteArray} {q:Rs} (h:Rdr w R s n q) (hs:(s.size:Int)≤4096) (A:Pc) (t:Rs) (HA:Calls Tryz.prog 128 #[.pointer (some ⟨R,0,none⟩)] w (RetP R s w A t)) (hb:t.bad=false) {d:UInt8} {r:List UInt8} (ht:t.rest=d::r) (hd:d.toNat=63) (hz:headIs 63 r=true) :
  Calls Tryz.prog 107 #[.pointer (some ⟨R,0,none⟩)] w (RetP R s w (.rep 63 true A) {t with rest:=r.drop 1}):=by
 have hR:=h.lt
 clear h
 go_enter Tryz.func107,Tryz.ntmps107
 go_upto_region 2 with (go_at_call 128;refine HA.mono ?_;rintro e w3 ⟨b,m,rfl,k,x,h3⟩)
 clear HA
 have QN:=now_some h3 hs ht
 simp only[hd] at QN
 go_upto_region 3 with (go_at_call 106;refine QN.mono ?_;rintro e w4 ⟨rfl,g4⟩)
 have h4:=h3.gr g4
 clear QN
 obtain ⟨c4,f4⟩:=And.intro h4.c4 h4.f4
 rw[hb] at c4
 have hle:=h4.len
 rw[ht] at hle
 simp at hle
 have hm:(m:Int)<4096:=by omega
 have hwr:=wrap_in ((m:Int)+1) (by omega) (by omega)
 clear hle
 go_upto_region 5 with (fail)
 obtain ⟨c1,f1⟩:=And.intro h4.c1 h4.f1
 clear c4 f4
 go_upto_region 6 with (fail)
 have h5:=h4.next ht
 have x5:GX R w (w4.setCell ⟨R,1,none⟩ (.int .i64 ((m:Int)+1))):=GX.setCell (p:=⟨R,1,none⟩) (x.trans (GX.of_gr g4)) (.inl rfl) _
 have k5:=Pc.In.same (Same.gx (GX.setCell (p:=⟨R,1,none⟩) (GX.of_gr (R:=R) g4) (.inl rfl) (.int .i64 ((m:Int)+1))) (Nat.le_refl _) (by omega)) _ _ k
 have k6:=Pc.In.wide (Nat.le_refl _) (GX.setCell (p:=⟨R,1,none⟩) (GX.of_gr (R:=R) g4) (.inl rfl) (.int .i64 ((m:Int)+1))).size _ _ k5
 clear c1 f1 h4 g4 h3 x k k5 hwr
 generalize (w4.setCell ⟨R,1,none⟩ (.int .i64 ((m:Int)+1)))=w6 at h5 x5 k6 ⊢
 have Q7:=fun o=>takes_yes (h5.gr (Gr.alloc (Gr.refl w6) o)) hs 63 (by decide) hz
 go_wp2_with (go_at_call 79;refine (Q7 _).mono ?_;rintro e w8 ⟨rfl,x8,h8⟩)
 go_ret
 exact RetP.rep _ 63 true hR x5 k6 x8 h8
theorem piece_rep63false {w:World} {R n:Nat} {s:ByteArray} {q:Rs} (h:Rdr w R s n q) (hs:(s.size:Int)≤4096) (A:Pc) (t:Rs) (HA:Calls Tryz.prog 128 #[.pointer (some ⟨R,0,none⟩)] w (RetP R s w A t)) (hb:t.bad=false) {d:UInt8} {r:List UInt8} (ht:t.rest=d::r) (hd:d.toNat=63) (hz:headIs 63 r=false) :
  Calls Tryz.prog 107 #[.pointer (some ⟨R,0,none⟩)] w (RetP R s w (.rep 63 false A) {t with rest:=r}):=by
 have hR:=h.lt
 clear h
 go_enter Tryz.func107,Tryz.ntmps107
 go_upto_region 2 with (go_at_call 128;refine HA.mono ?_;rintro e w3 ⟨b,m,rfl,k,x,h3⟩)
 clear HA
 have QN:=now_some h3 hs ht
 simp only[hd] at QN
 go_upto_region 3 with (go_at_call 106;refine QN.mono ?_;rintro e w4 ⟨rfl,g4⟩)
 have h4:=h3.gr g4
 clear QN
 obtain ⟨c4,f4⟩:=And.intro h4.c4 h4.f4
 rw[hb] at c4
 have hle:=h4.len
 rw[ht] at hle
 simp at hle
 have hm:(m:Int)<4096:=by omega
 have hwr:=wrap_in ((m:Int)+1) (by omega) (by omega)
 clear hle
 go_upto_region 5 with (fail)
 obtain ⟨c1,f1⟩:=And.intro h4.c1 h4.f1
 clear c4 f4
 go_upto_region 6 with (fail)
 have h5:=h4.next ht
 have x5:GX R w (w4.setCell ⟨R,1,none⟩ (.int .i64 ((m:Int)+1))):=GX.setCell (p:=⟨R,1,none⟩) (x.trans (GX.of_gr g4)) (.inl rfl) _
 have k5:=Pc.In.same (Same.gx (GX.setCell (p:=⟨R,1,none⟩) (GX.of_gr (R:=R) g4) (.inl rfl) (.int .i64 ((m:Int)+1))) (Nat.le_refl _) (by omega)) _ _ k
 have k6:=Pc.In.wide (Nat.le_refl _) (GX.setCell (p:=⟨R,1,none⟩) (GX.of_gr (R:=R) g4) (.inl rfl) (.int .i64 ((m:Int)+1))).size _ _ k5
 clear c1 f1 h4 g4 h3 x k k5 hwr
 generalize (w4.setCell ⟨R,1,none⟩ (.int .i64 ((m:Int)+1)))=w6 at h5 x5 k6 ⊢
 have Q7:=fun o=>takes_no (h5.gr (Gr.alloc (Gr.refl w6) o)) hs 63 (by decide) hz
 go_wp2_with (go_at_call 79;refine (Q7 _).mono ?_;rintro e w8 ⟨rfl,g8⟩;have x8:=GX.of_gr (R:=R) g8;have h8:=(h5.gr (Gr.alloc (Gr.refl w6) _)).gr g8)
 go_ret
 exact RetP.rep _ 63 false hR x5 k6 x8 h8
theorem piece_all {w:World} {R n:Nat} {s:ByteArray} {q:Rs} (Wf:Rs→Pc×Rs) (h:Rdr w R s n q) (hs:(s.size:Int)≤4096) {c:UInt8} {r:List UInt8} (hq:q.rest=c::r)
  (HG:∀W,Rdr W R s (n+1) {q with rest:=r}→Calls Tryz.prog 138 #[.pointer (some ⟨R,0,none⟩)] W (RetP R s W (groupS Wf {q with rest:=r}).1 (groupS Wf {q with rest:=r}).2)) :
  Calls Tryz.prog 107 #[.pointer (some ⟨R,0,none⟩)] w (RetP R s w (pieceS Wf q).1 (pieceS Wf q).2):=by
 have HA:=atom_all Wf h hs hq HG
 unfold pieceS
 generalize atomS Wf q=T at HA ⊢
 obtain ⟨A,t⟩:=T
 simp only at HA ⊢
 rcases Bool.eq_false_or_eq_true t.bad with hb|hb
 ·
  rw[hb];exact piece_bad h hs A t HA hb
 ·
  match e:t.rest with
  | []=>rw[hb];exact piece_end h hs A t HA hb e
  | d::u=>
   simp only
   have hbt:(bif t.bad then (A,t) else bif repC d.toNat then (Pc.rep d.toNat (headIs 63 u) A,{t with rest:=bif headIs 63 u then u.drop 1 else u}) else (A,t))=bif repC d.toNat then (Pc.rep d.toNat (headIs 63 u) A,{t with rest:=bif headIs 63 u then u.drop 1 else u}) else (A,t):=by rw[hb];rfl
   rw[hbt]
   by_cases h42:d.toNat=42
   ·
    rw[h42]
    cases hz:headIs 63 u
    ·
     exact piece_rep42false h hs A t HA hb e h42 hz
    ·
     exact piece_rep42true h hs A t HA hb e h42 hz
   by_cases h43:d.toNat=43
   ·
    rw[h43]
    cases hz:headIs 63 u
    ·
     exact piece_rep43false h hs A t HA hb e h43 hz
    ·
     exact piece_rep43true h hs A t HA hb e h43 hz
   by_cases h63:d.toNat=63
   ·
    rw[h63]
    cases hz:headIs 63 u
    ·
     exact piece_rep63false h hs A t HA hb e h63 hz
    ·
     exact piece_rep63true h hs A t HA hb e h63 hz
   have hst:repC d.toNat=false:=by
    unfold repC
    rw[beq_eq_false_iff_ne.2 h42,beq_eq_false_iff_ne.2 h43,beq_eq_false_iff_ne.2 h63]
    rfl
   rw[hst]
   exact piece_no h hs A t HA hb e ⟨h42,h43,h63⟩
theorem Rdr.other {w:World} {R n:Nat} {s:ByteArray} {q:Rs} (h:Rdr w R s n q) (p:Addr) (hp:p.block≠R) (u:Value):Rdr (w.setCell p u) R s n q:=by
 have hx:∀i,(w.setCell p u).cell? ⟨R,i,none⟩=w.cell? ⟨R,i,none⟩:=fun i=>World.cell?_of_block (a:=⟨R,i,none⟩) (heap_setCell_other w p R u (fun e=>hp e.symm))
 have hy:∀i,(w.setCell p u).frozen? ⟨R,i,none⟩=w.frozen? ⟨R,i,none⟩:=fun i=>by simp
 exact ⟨h.len,h.rest,(hx 0).trans h.c0,(hx 1).trans h.c1,(hx 2).trans h.c2,(hx 3).trans h.c3,(hx 4).trans h.c4,(hx 5).trans h.c5,(hy 1).trans h.f1,(hy 2).trans h.f2,(hy 3).trans h.f3,(hy 4).trans h.f4,(hy 5).trans h.f5,by simpa using h.lt⟩
theorem Rdr.next2 {w:World} {R n:Nat} {s:ByteArray} {q:Rs} (h:Rdr w R s n q) {c d:UInt8} {r:List UInt8} (hq:q.rest=c::d::r):Rdr (w.setCell ⟨R,1,none⟩ (.int .i64 ((n:Int)+2))) R s (n+2) {q with rest:=r}:=by
 have hl:=h.len
 have hr:=h.rest
 rw[hq] at hl hr
 refine ⟨by simp at hl ⊢;omega,?_,?_,?_,?_,?_,?_,?_,?_,?_,?_,?_,?_,?_⟩
 ·
  show s.data.toList.drop (n+2)=r
  rw[←List.drop_drop,hr];rfl
 ·
  exact (World.cell?_setCell_other w ⟨R,1,none⟩ ⟨R,0,none⟩ _ (by simp)).trans h.c0
 ·
  have:=h.c1;have:=h.f1;go_simp
 ·
  exact (World.cell?_setCell_other w ⟨R,1,none⟩ ⟨R,2,none⟩ _ (by simp)).trans h.c2
 ·
  exact (World.cell?_setCell_other w ⟨R,1,none⟩ ⟨R,3,none⟩ _ (by simp)).trans h.c3
 ·
  exact (World.cell?_setCell_other w ⟨R,1,none⟩ ⟨R,4,none⟩ _ (by simp)).trans h.c4
 ·
  exact (World.cell?_setCell_other w ⟨R,1,none⟩ ⟨R,5,none⟩ _ (by simp)).trans h.c5
 ·
  exact (by simp:(w.setCell ⟨R,1,none⟩ _).frozen? ⟨R,1,none⟩=w.frozen? ⟨R,1,none⟩).trans h.f1
 ·
  exact (by simp:(w.setCell ⟨R,1,none⟩ _).frozen? ⟨R,2,none⟩=w.frozen? ⟨R,2,none⟩).trans h.f2
 ·
  exact (by simp:(w.setCell ⟨R,1,none⟩ _).frozen? ⟨R,3,none⟩=w.frozen? ⟨R,3,none⟩).trans h.f3
 ·
  exact (by simp:(w.setCell ⟨R,1,none⟩ _).frozen? ⟨R,4,none⟩=w.frozen? ⟨R,4,none⟩).trans h.f4
 ·
  exact (by simp:(w.setCell ⟨R,1,none⟩ _).frozen? ⟨R,5,none⟩=w.frozen? ⟨R,5,none⟩).trans h.f5
 ·
  simpa using h.lt
theorem ext_drop (s:ByteArray) (n:Nat):(s.extract n s.size).data.toList=s.data.toList.drop n:=by
 have hz:s.data.size=s.size:=rfl
 simp[ByteArray.data_extract,Array.toList_extract,List.extract_eq_take_drop]
 rw[List.take_of_length_le (by simp)]
structure GSt (R:Nat) (w0:World) (P g A b:Nat) (p:Pc) (W:World):Prop where
 x:GX R w0 W
 node:Node W P 12 [] (.slice (some ⟨A,0,none⟩) 1 1) g false
 h0:w0.heap.size≤P
 h1:P<W.heap.size
 kn:Rkn (w0.heap.size-1) W.heap.size W (.slice (some ⟨A,0,none⟩) 1 1) [b]
 k:p.In (w0.heap.size-1) W.heap.size W b
theorem Rkn.gx {R lo b A:Nat} {W W':World} (h:Rkn lo W.heap.size W (.slice (some ⟨A,0,none⟩) 1 1) [b]) (x:GX R W W') (hR:R≤lo):Rkn lo W'.heap.size W' (.slice (some ⟨A,0,none⟩) 1 1) [b]:=
 (h.same (Same.gx x (Nat.le_refl _) hR)).wide (Nat.le_refl _) x.size
theorem GSt.gx {R P g A b:Nat} {p:Pc} {w0 W W':World} (h:GSt R w0 P g A b p W) (hR:R<w0.heap.size) (x:GX R W W'):GSt R w0 P g A b p W':=
 ⟨h.x.trans x,h.node.gx x h.h1 (by have:=h.h0;omega),h.h0,Nat.lt_of_lt_of_le h.h1 x.size,h.kn.gx x (by omega),Pc.In.wide (Nat.le_refl _) x.size _ _ (Pc.In.same (Same.gx x (Nat.le_refl _) (by omega)) _ _ h.k)⟩
theorem GSt.ret {R P g A b n:Nat} {s:ByteArray} {q:Rs} {p:Pc} {w0 W:World} (h:GSt R w0 P g A b p W) (hR:R<w0.heap.size) (r:Rdr W R s n q):RetP R s w0 (.group g p) q (.returned (.pointer (some ⟨P,0,none⟩))) W:=by
 refine ⟨P,n,rfl,?_,h.x,r⟩
 simp only[Pc.In]
 have:=h.h0
 exact ⟨by omega,h.h1,_,b,h.node,h.kn,h.k⟩
theorem GSt.make {R P g b:Nat} {p:Pc} {w0 w4 w5:World} (T:TypeId) (hR:R<w0.heap.size) (x4:GX R w0 w4) (n4:Node w4 P 12 [] (.slice none 0 0) g false) (f4:w4.frozen? ⟨P,2,none⟩=false) (h0:w0.heap.size≤P) (h1:P<w4.heap.size) (x5:GX R w4 w5) (k:p.In (w4.heap.size-1) w5.heap.size w5 b) :
  GSt R w0 P g w5.heap.size b p ((w5.alloc (.cells #[.pointer (some ⟨b,0,none⟩)] T)).setCell ⟨P,2,none⟩ (.slice (some ⟨w5.heap.size,0,none⟩) 1 1)):=by
 have z5:=x5.size
 have z4:=x4.size
 have n5:=(n4.gx x5 h1 (by omega))
 have f5:=(x5.frozen (p:=⟨P,2,none⟩) h1 (by simp;omega)).trans f4
 have ha:GX R w5 (w5.alloc (.cells #[.pointer (some ⟨b,0,none⟩)] T)):=GX.of_gr (Gr.alloc (Gr.refl w5) _)
 have n6:=n5.gx ha (by omega) (by omega)
 have f6:=(ha.frozen (p:=⟨P,2,none⟩) (by simp;omega) (by simp;omega)).trans f5
 have kn6:=Rkn.one (b:=b) (lo:=w4.heap.size-1) T (GX.refl R (w5.alloc (.cells #[.pointer (some ⟨b,0,none⟩)] T))) (by omega) (by omega)
 have k6:=Pc.In.same (Same.gx ha (Nat.le_refl _) (by omega)) _ _ k
 have z6:=ha.size
 generalize (w5.alloc (.cells #[.pointer (some ⟨b,0,none⟩)] T))=w6 at *
 have sm:Same (w4.heap.size-1) w6.heap.size w6 (w6.setCell ⟨P,2,none⟩ (.slice (some ⟨w5.heap.size,0,none⟩) 1 1)):=Same.set (Nat.le_refl _) (.inl (by simp;omega)) _
 have sz:(w6.setCell ⟨P,2,none⟩ (.slice (some ⟨w5.heap.size,0,none⟩) 1 1)).heap.size=w6.heap.size:=by simp
 obtain ⟨m0,m1,m2,m3,m4⟩:=n6
 refine ⟨GX.setCell (p:=⟨P,2,none⟩) ((x4.trans x5).trans ha) (.inr h0) _,⟨?_,?_,?_,?_,?_⟩,h0,by omega,?_,?_⟩
 ·
  exact (World.cell?_setCell_other w6 ⟨P,2,none⟩ ⟨P,0,none⟩ _ (by simp)).trans m0
 ·
  exact (World.cell?_setCell_other w6 ⟨P,2,none⟩ ⟨P,1,none⟩ _ (by simp)).trans m1
 ·
  go_simp
 ·
  exact (World.cell?_setCell_other w6 ⟨P,2,none⟩ ⟨P,3,none⟩ _ (by simp)).trans m3
 ·
  exact (World.cell?_setCell_other w6 ⟨P,2,none⟩ ⟨P,4,none⟩ _ (by simp)).trans m4
 ·
  rw[sz];exact (kn6.same sm).wide (by omega) (Nat.le_refl _)
 ·
  rw[sz];exact Pc.In.wide (by omega) z6 _ _ (Pc.In.same ⟨Nat.le_trans z6 sm.1,fun i h0 h1=>sm.2 i h0 (Nat.lt_of_lt_of_le h1 z6)⟩ _ _ k6)
theorem GSt.cut {Pr:Program} {c:Code} {Z:Exit→Act→World→Prop} {a:Act} {R P g b n:Nat} {s:ByteArray} {q:Rs} {p:Pc} {w0 w4 w5:World} (T:TypeId) (hR:R<w0.heap.size) (x4:GX R w0 w4) (n4:Node w4 P 12 [] (.slice none 0 0) g false) (f4:w4.frozen? ⟨P,2,none⟩=false) (h0:w0.heap.size≤P) (h1:P<w4.heap.size) (x5:GX R w4 w5) (k:p.In (w4.heap.size-1) w5.heap.size w5 b) (h:Rdr w5 R s n q)
  (K:∀W,GSt R w0 P g w5.heap.size b p W→Rdr W R s n q→Code.wp Pr c Z a W):Code.wp Pr c Z a ((w5.setCell ⟨P,2,none⟩ (.slice (some ⟨w5.heap.size,0,none⟩) 1 1)).alloc (.cells #[.pointer (some ⟨b,0,none⟩)] T)):=by
 have hp:P<w5.heap.size:=Nat.lt_of_lt_of_le h1 x5.size
 rw[←World.setCell_alloc_past (w:=w5) _ P 2 _ hp]
 exact K _ (GSt.make T hR x4 n4 f4 h0 h1 x5 k) ((h.gr (Gr.alloc (Gr.refl _) _)).other _ (by simp;omega) _)
theorem group_over {w:World} {R n:Nat} {s:ByteArray} {q:Rs} (h:Rdr w R s n q) (hs:(s.size:Int)≤4096) (hd:64≤q.deep) (hd2:q.deep≤5000) :
  Calls Tryz.prog 138 #[.pointer (some ⟨R,0,none⟩)] w (RetP R s w (failS {q with deep:=q.deep+1,over:=true}).1 (failS {q with deep:=q.deep+1,over:=true}).2):=by
 have h1:=h.setDeep (q.deep+1)
 have h2:=h1.setOver
 simp only[Int.natCast_add,Int.natCast_one,Int.cast_ofNat_Int] at h1 h2
 have x2:GX R w ((w.setCell ⟨R,3,none⟩ (.int .i64 ((q.deep:Int)+1))).setCell ⟨R,5,none⟩ (.bool true)):=GX.setCell (p:=⟨R,5,none⟩) (GX.setCell (p:=⟨R,3,none⟩) (GX.refl R w) (.inl rfl) _) (.inl rfl) _
 have hwr:=wrap_in ((q.deep:Int)+1) (by omega) (by omega)
 have hgt:(64:Int)<(q.deep:Int)+1:=by omega
 have hgt2:decide ((64:Int)<(q.deep:Int)+1)=true:=decide_eq_true hgt
 obtain ⟨c3,f3⟩:=And.intro h.c3 h.f3
 obtain ⟨c5,f5⟩:=And.intro h1.c5 h1.f5
 clear h1 h
 go_enter Tryz.func138,Tryz.ntmps138
 go_upto_region 4 with (fail)
 generalize ((w.setCell ⟨R,3,none⟩ (.int .i64 ((q.deep:Int)+1))).setCell ⟨R,5,none⟩ (.bool true))=w2 at h2 x2 ⊢
 go_wp2_with (go_at_call 143;refine (fail_any h2).mono ?_;rintro e w9 ⟨b,m9,rfl,k9,x9,h9⟩)
 go_ret
 exact RetP.from x2 ⟨b,m9,rfl,k9,x9,h9⟩
theorem group_true {w:World} {R n:Nat} {s:ByteArray} {q:Rs} (h:Rdr w R s n q) (hs:(s.size:Int)≤4096) (hd:q.deep<64) {c d:UInt8} {r:List UInt8} (hq:q.rest=c::d::r) (hh:Lib.hasPrefix q.rest [63,58]=true) (p:Pc) (t:Rs) (ht:t.bad=false→t.deep=q.deep+1)
  (HW:∀W m,Rdr W R s m {q with deep:=q.deep+1,rest:=r}→Calls Tryz.prog 45 #[.pointer (some ⟨R,0,none⟩)] W (RetP R s W p t)) :
  Calls Tryz.prog 138 #[.pointer (some ⟨R,0,none⟩)] w (RetP R s w (bif t.bad || !headIs 41 t.rest then failS t else (.group 0 p,{t with rest:=t.rest.drop 1,deep:=t.deep-1})).1 (bif t.bad || !headIs 41 t.rest then failS t else (.group 0 p,{t with rest:=t.rest.drop 1,deep:=t.deep-1})).2):=by
 have h1:=h.setDeep (q.deep+1)
 simp only[Int.natCast_add,Int.natCast_one,Int.cast_ofNat_Int] at h1
 have x1:GX R w (w.setCell ⟨R,3,none⟩ (.int .i64 ((q.deep:Int)+1))):=GX.setCell (p:=⟨R,3,none⟩) (GX.refl R w) (.inl rfl) _
 have hwr:=wrap_in ((q.deep:Int)+1) (by omega) (by omega)
 have hgt:¬(64:Int)<(q.deep:Int)+1:=by omega
 have hgt2:decide ((64:Int)<(q.deep:Int)+1)=false:=decide_eq_false hgt
 have hR:=h.lt
 have hle:=h.len
 have hsr:=h.rest
 obtain ⟨c3,f3⟩:=And.intro h.c3 h.f3
 clear h
 go_enter Tryz.func138,Tryz.ntmps138
 go_upto_region 5 with (fail)
 generalize (w.setCell ⟨R,3,none⟩ (.int .i64 ((q.deep:Int)+1)))=w1 at h1 x1 ⊢
 go_upto_region 6 with (fail)
 clear c3 f3 hwr hgt hgt2
 have hz1:=x1.size
 have h2:=h1.gr (Gr.alloc (Gr.refl w1) (.cells #[.int .i64 12, .string ⟨#[]⟩, .slice none 0 0, .int .i64 0, .bool false] 112))
 have n2:=node_new w1 12 0 [] (.slice none 0 0) false
 have x2:=x1.alloc (.cells #[.int .i64 12, .string ⟨#[]⟩, .slice none 0 0, .int .i64 0, .bool false] 112)
 have fP:∀i,(w1.alloc (.cells #[.int .i64 12, .string ⟨#[]⟩, .slice none 0 0, .int .i64 0, .bool false] 112)).frozen? ⟨w1.heap.size,i,none⟩=false:=fun i=>by go_simp
 have hP:w1.heap.size<(w1.alloc (.cells #[.int .i64 12, .string ⟨#[]⟩, .slice none 0 0, .int .i64 0, .bool false] 112)).heap.size:=by simp
 generalize hPP:w1.heap.size=P at *
 clear x1 h1
 generalize (w1.alloc (.cells #[.int .i64 12, .string ⟨#[]⟩, .slice none 0 0, .int .i64 0, .bool false] 112))=w2 at h2 n2 x2 fP hP ⊢
 obtain ⟨c0,c1⟩:=And.intro h2.c0 h2.c1
 have hn:(n:Int)≤s.size:=by omega
 go_quiet (first|(go_at_call 149;refine Calls.quiet_of_same (Tryz.strings_HasPrefix _ _ _)))
 have hex:(s.extract n s.size).data.toList=q.rest:=by rw[←hsr];exact ext_drop s n
 rw[hex,hh]
 rename Nat=>nd
 have g3:Gr w2 (w2.drewN nd):=Gr.drewM (Gr.refl w2) nd
 generalize w2.drewN nd=w3 at g3 ⊢
 have h3:=h2.gr g3
 have n3:=n2.gx (GX.of_gr (R:=R) g3) hP (by omega)
 have x3:=x2.trans (GX.of_gr g3)
 have fP3:∀i,w3.frozen? ⟨P,i,none⟩=false:=fun i=>(g3.frozen (p:=⟨P,i,none⟩) hP).trans (fP i)
 have hP3:P<w3.heap.size:=Nat.lt_of_lt_of_le hP g3.size
 clear g3 h2 n2 x2 fP hP hex hsr c0 c1
 have hl3:=h3.len
 simp only[hq,List.length_cons] at hl3
 have hn2:(n:Int)+2≤s.size:=by omega
 have hwr:=wrap_in ((n:Int)+2) (by omega) (by omega)
 obtain ⟨c1,f1⟩:=And.intro h3.c1 h3.f1
 go_upto_region 8 with (fail)
 have h4:=h3.next2 hq
 have x4:GX R w (w3.setCell ⟨R,1,none⟩ (.int .i64 ((n:Int)+2))):=GX.setCell (p:=⟨R,1,none⟩) x3 (.inl rfl) _
 have y4:GX R w3 (w3.setCell ⟨R,1,none⟩ (.int .i64 ((n:Int)+2))):=GX.setCell (p:=⟨R,1,none⟩) (GX.refl R w3) (.inl rfl) _
 have n4:=n3.gx y4 hP3 (by omega)
 have fP4:=(y4.frozen (p:=⟨P,2,none⟩) hP3 (by simp;omega)).trans (fP3 2)
 have hP4:P<(w3.setCell ⟨R,1,none⟩ (.int .i64 ((n:Int)+2))).heap.size:=Nat.lt_of_lt_of_le hP3 y4.size
 clear c1 f1 hwr hn2 h3 x3 n3 fP3 y4 hl3
 generalize (w3.setCell ⟨R,1,none⟩ (.int .i64 ((n:Int)+2)))=w4 at h4 x4 n4 fP4 hP4 ⊢
 have hPR:P≠R:=by omega
 go_upto_region 11 with (go_at_call 45;refine (HW _ _ h4).mono ?_;rintro e wv ⟨b,m,rfl,kv,xv,hv⟩;obtain ⟨pv0,pv1,pv2,pv3,pv4⟩:=n4.gx xv hP4 hPR;have fv:=(xv.frozen (p:=⟨P,2,none⟩) hP4 hPR).trans fP4;have hPv:P<wv.heap.size:=Nat.lt_of_lt_of_le hP4 xv.size)
 refine GSt.cut _ hR x4 n4 fP4 hz1 hP4 xv kv hv ?_
 clear pv0 pv1 pv2 pv3 pv4 fv x4 n4 fP4 hP4 kv xv hv HW h4
 intro wx G hx
 obtain ⟨c4,f4⟩:=And.intro hx.c4 hx.f4
 rcases Bool.eq_false_or_eq_true t.bad with hb|hb
 ·
  rw[hb] at c4
  go_wp2_with (go_at_call 143;refine (fail_any hx).mono ?_;rintro e w9 ⟨b9,m9,rfl,k9,x9,h9⟩)
  go_ret
  rw[show (t.bad || !headIs 41 t.rest)=true by rw[hb];rfl]
  exact RetP.from G.x ⟨b9,m9,rfl,k9,x9,h9⟩
 ·
  rw[hb] at c4
  have htd:=ht hb
  cases h41:headIs 41 t.rest
  ·
   go_wp2_with (first
    | (go_at_call 79;refine (takes_no hx hs 41 (by decide) h41).mono ?_;rintro e w8 ⟨rfl,g8⟩;have h8:=hx.gr g8)
    | (go_at_call 143;refine (fail_any h8).mono ?_;rintro e w9 ⟨b9,m9,rfl,k9,x9,h9⟩))
   go_ret
   rw[show (t.bad || !headIs 41 t.rest)=true by rw[hb,h41];rfl]
   exact RetP.from (G.x.trans (GX.of_gr g8)) ⟨b9,m9,rfl,k9,x9,h9⟩
  ·
   have hwr:=wrap_in ((t.deep:Int)-1) (by omega) (by omega)
   go_upto_region 13 with (go_at_call 79;refine (takes_yes hx hs 41 (by decide) h41).mono ?_;rintro e w8 ⟨rfl,x8,h8⟩)
   obtain ⟨c3,f3⟩:=And.intro h8.c3 h8.f3
   have h9:=h8.setDeep (t.deep-1)
   rw[show ((t.deep-1:Nat):Int)=(t.deep:Int)-1 by omega] at h9
   go_wp2
   go_ret
   have h10:=(G.gx hR (GX.setCell (p:=⟨R,3,none⟩) x8 (.inl rfl) (.int .i64 ((t.deep:Int)-1)))).ret hR h9
   simpa [htd,hb] using h10
theorem group_false {w:World} {R n:Nat} {s:ByteArray} {q:Rs} (h:Rdr w R s n q) (hs:(s.size:Int)≤4096) (hd:q.deep<64) (hh:Lib.hasPrefix q.rest [63,58]=false) (hg:q.groups≤5000) (p:Pc) (t:Rs) (ht:t.bad=false→t.deep=q.deep+1)
  (HW:∀W m,Rdr W R s m {q with deep:=q.deep+1,groups:=q.groups+1}→Calls Tryz.prog 45 #[.pointer (some ⟨R,0,none⟩)] W (RetP R s W p t)) :
  Calls Tryz.prog 138 #[.pointer (some ⟨R,0,none⟩)] w (RetP R s w (bif t.bad || !headIs 41 t.rest then failS t else (.group (q.groups+1) p,{t with rest:=t.rest.drop 1,deep:=t.deep-1})).1 (bif t.bad || !headIs 41 t.rest then failS t else (.group (q.groups+1) p,{t with rest:=t.rest.drop 1,deep:=t.deep-1})).2):=by
 have h1:=h.setDeep (q.deep+1)
 simp only[Int.natCast_add,Int.natCast_one,Int.cast_ofNat_Int] at h1
 have x1:GX R w (w.setCell ⟨R,3,none⟩ (.int .i64 ((q.deep:Int)+1))):=GX.setCell (p:=⟨R,3,none⟩) (GX.refl R w) (.inl rfl) _
 have hwr:=wrap_in ((q.deep:Int)+1) (by omega) (by omega)
 have hgt:¬(64:Int)<(q.deep:Int)+1:=by omega
 have hgt2:decide ((64:Int)<(q.deep:Int)+1)=false:=decide_eq_false hgt
 have hR:=h.lt
 have hle:=h.len
 have hsr:=h.rest
 obtain ⟨c3,f3⟩:=And.intro h.c3 h.f3
 clear h
 go_enter Tryz.func138,Tryz.ntmps138
 go_upto_region 5 with (fail)
 generalize (w.setCell ⟨R,3,none⟩ (.int .i64 ((q.deep:Int)+1)))=w1 at h1 x1 ⊢
 go_upto_region 6 with (fail)
 clear c3 f3 hwr hgt hgt2
 have hz1:=x1.size
 have h2:=h1.gr (Gr.alloc (Gr.refl w1) (.cells #[.int .i64 12, .string ⟨#[]⟩, .slice none 0 0, .int .i64 0, .bool false] 112))
 have n2:=node_new w1 12 0 [] (.slice none 0 0) false
 have x2:=x1.alloc (.cells #[.int .i64 12, .string ⟨#[]⟩, .slice none 0 0, .int .i64 0, .bool false] 112)
 have fP:∀i,(w1.alloc (.cells #[.int .i64 12, .string ⟨#[]⟩, .slice none 0 0, .int .i64 0, .bool false] 112)).frozen? ⟨w1.heap.size,i,none⟩=false:=fun i=>by go_simp
 have hP:w1.heap.size<(w1.alloc (.cells #[.int .i64 12, .string ⟨#[]⟩, .slice none 0 0, .int .i64 0, .bool false] 112)).heap.size:=by simp
 generalize hPP:w1.heap.size=P at *
 clear x1 h1
 generalize (w1.alloc (.cells #[.int .i64 12, .string ⟨#[]⟩, .slice none 0 0, .int .i64 0, .bool false] 112))=w2 at h2 n2 x2 fP hP ⊢
 obtain ⟨c0,c1⟩:=And.intro h2.c0 h2.c1
 have hn:(n:Int)≤s.size:=by omega
 go_quiet (first|(go_at_call 149;refine Calls.quiet_of_same (Tryz.strings_HasPrefix _ _ _)))
 have hex:(s.extract n s.size).data.toList=q.rest:=by rw[←hsr];exact ext_drop s n
 rw[hex,hh]
 rename Nat=>nd
 have g3:Gr w2 (w2.drewN nd):=Gr.drewM (Gr.refl w2) nd
 generalize w2.drewN nd=w3 at g3 ⊢
 have h3:=h2.gr g3
 have n3:=n2.gx (GX.of_gr (R:=R) g3) hP (by omega)
 have x3:=x2.trans (GX.of_gr g3)
 have fP3:∀i,w3.frozen? ⟨P,i,none⟩=false:=fun i=>(g3.frozen (p:=⟨P,i,none⟩) hP).trans (fP i)
 have hP3:P<w3.heap.size:=Nat.lt_of_lt_of_le hP g3.size
 clear g3 h2 n2 x2 fP hP hex hsr c0 c1
 have h4:=h3.setGroups (q.groups+1)
 simp only[Int.natCast_add,Int.natCast_one,Int.cast_ofNat_Int] at h4
 have hwr:=wrap_in ((q.groups:Int)+1) (by omega) (by omega)
 obtain ⟨c2,f2⟩:=And.intro h3.c2 h3.f2
 go_upto_region 9 with (fail)
 have x4:GX R w (w3.setCell ⟨R,2,none⟩ (.int .i64 ((q.groups:Int)+1))):=GX.setCell (p:=⟨R,2,none⟩) x3 (.inl rfl) _
 have y4:GX R w3 (w3.setCell ⟨R,2,none⟩ (.int .i64 ((q.groups:Int)+1))):=GX.setCell (p:=⟨R,2,none⟩) (GX.refl R w3) (.inl rfl) _
 have n4:=n3.gx y4 hP3 (by omega)
 have fP4:=fun i=>(y4.frozen (p:=⟨P,i,none⟩) hP3 (by simp;omega)).trans (fP3 i)
 have hP4:P<(w3.setCell ⟨R,2,none⟩ (.int .i64 ((q.groups:Int)+1))).heap.size:=Nat.lt_of_lt_of_le hP3 y4.size
 clear c2 f2 hwr h3 x3 n3 fP3 y4
 generalize (w3.setCell ⟨R,2,none⟩ (.int .i64 ((q.groups:Int)+1)))=w4 at h4 x4 n4 fP4 hP4 ⊢
 obtain ⟨c2,f2⟩:=And.intro h4.c2 h4.f2
 simp only[Int.natCast_add,Int.natCast_one,Int.cast_ofNat_Int] at c2
 obtain ⟨p0,p1,p2,p3,p4⟩:=id n4
 have fP43:=fP4 3
 go_upto_region 10 with (fail)
 have n5:Node (w4.setCell ⟨P,3,none⟩ (.int .i64 ((q.groups:Int)+1))) P 12 [] (.slice none 0 0) (q.groups+1) false:=by
  refine ⟨(World.cell?_setCell_other w4 ⟨P,3,none⟩ ⟨P,0,none⟩ _ (by simp)).trans p0,(World.cell?_setCell_other w4 ⟨P,3,none⟩ ⟨P,1,none⟩ _ (by simp)).trans p1,(World.cell?_setCell_other w4 ⟨P,3,none⟩ ⟨P,2,none⟩ _ (by simp)).trans p2,?_,(World.cell?_setCell_other w4 ⟨P,3,none⟩ ⟨P,4,none⟩ _ (by simp)).trans p4⟩
  have e:((q.groups+1:Nat):Int)=(q.groups:Int)+1:=by omega
  rw[e]
  go_simp
 have h5:=h4.other ⟨P,3,none⟩ (by simp;omega) (.int .i64 ((q.groups:Int)+1))
 have x5:GX R w (w4.setCell ⟨P,3,none⟩ (.int .i64 ((q.groups:Int)+1))):=GX.setCell (p:=⟨P,3,none⟩) x4 (.inr (by simp;omega)) _
 have fP5:(w4.setCell ⟨P,3,none⟩ (.int .i64 ((q.groups:Int)+1))).frozen? ⟨P,2,none⟩=false:=by simpa using fP4 2
 have hP5:P<(w4.setCell ⟨P,3,none⟩ (.int .i64 ((q.groups:Int)+1))).heap.size:=by simpa using hP4
 clear c2 f2 p0 p1 p2 p3 p4 fP43 h4 x4 n4 fP4 hP4
 generalize (w4.setCell ⟨P,3,none⟩ (.int .i64 ((q.groups:Int)+1)))=w5 at h5 x5 n5 fP5 hP5 ⊢
 have hPR:P≠R:=by omega
 go_upto_region 11 with (go_at_call 45;refine (HW _ _ h5).mono ?_;rintro e wv ⟨b,m,rfl,kv,xv,hv⟩;obtain ⟨pv0,pv1,pv2,pv3,pv4⟩:=n5.gx xv hP5 hPR;have fv:=(xv.frozen (p:=⟨P,2,none⟩) hP5 hPR).trans fP5;have hPv:P<wv.heap.size:=Nat.lt_of_lt_of_le hP5 xv.size)
 refine GSt.cut _ hR x5 n5 fP5 hz1 hP5 xv kv hv ?_
 clear pv0 pv1 pv2 pv3 pv4 fv x5 n5 fP5 hP5 kv xv hv HW h5
 intro wx G hx
 obtain ⟨c4,f4⟩:=And.intro hx.c4 hx.f4
 rcases Bool.eq_false_or_eq_true t.bad with hb|hb
 ·
  rw[hb] at c4
  go_wp2_with (go_at_call 143;refine (fail_any hx).mono ?_;rintro e w9 ⟨b9,m9,rfl,k9,x9,h9⟩)
  go_ret
  rw[show (t.bad || !headIs 41 t.rest)=true by rw[hb];rfl]
  exact RetP.from G.x ⟨b9,m9,rfl,k9,x9,h9⟩
 ·
  rw[hb] at c4
  have htd:=ht hb
  cases h51:headIs 41 t.rest
  ·
   go_wp2_with (first
    | (go_at_call 79;refine (takes_no hx hs 41 (by decide) h51).mono ?_;rintro e w8 ⟨rfl,g8⟩;have h8:=hx.gr g8)
    | (go_at_call 143;refine (fail_any h8).mono ?_;rintro e w9 ⟨b9,m9,rfl,k9,x9,h9⟩))
   go_ret
   rw[show (t.bad || !headIs 41 t.rest)=true by rw[hb,h51];rfl]
   exact RetP.from (G.x.trans (GX.of_gr g8)) ⟨b9,m9,rfl,k9,x9,h9⟩
  ·
   have hwr:=wrap_in ((t.deep:Int)-1) (by omega) (by omega)
   go_upto_region 13 with (go_at_call 79;refine (takes_yes hx hs 41 (by decide) h51).mono ?_;rintro e w8 ⟨rfl,x8,h8⟩)
   obtain ⟨c3,f3⟩:=And.intro h8.c3 h8.f3
   have h9:=h8.setDeep (t.deep-1)
   rw[show ((t.deep-1:Nat):Int)=(t.deep:Int)-1 by omega] at h9
   go_wp2
   go_ret
   have h10:=(G.gx hR (GX.setCell (p:=⟨R,3,none⟩) x8 (.inl rfl) (.int .i64 ((t.deep:Int)-1)))).ret hR h9
   simpa [htd,hb] using h10
section
variable {P:Program} {w:World}
theorem wp_append_rdX {o:Oper} {a:Act} {Q:Exit→Act→World→Prop} {K:Act→World→Prop} (s x:Operand) (t:TypeId)
  (ho:o.op= .call {callee:= .builtin .append,args:= #[s,x],argTypes:= #[t,t]})
  (base:Nat) (e:TypeId) (i:TypeInfo) (z:Value) (size bytes:Nat) (ht:P.underlying t=some (.slice e)) (hi:P.info? e=some i) (hz:i.zero=some z)
  (hsize:i.size=size) (hby:i.bytes=bytes) (hzs:z.cells.size=size) (hsz:0<size)
  (v:Value) (n:Nat) (xs:List Value) (hs:a.eval s=v) (hown:w.ownsRow base e size v n xs)
  (ad:Addr) (m c:Nat) (news:List Value) (hx:a.eval x= .slice (some ad) m c) (hr:Rd w size (some ad) m news) (hm:0<m) (h1:∀u∈news,u.oneCell'=true)
  (h63:n+m≤maxLen) (hbytes:(n+m)*bytes≤140737488355328) (hbase:base≤w.heap.size)
  (h:∀v' w',w'.ownsRow base e size v' (n+m) (xs++news)→w.grownBy w' v.ownBlock→(v'.ownBlock=v.ownBlock∨v'.ownBlock=some w.heap.size)→K (a.put o.dst v') w'):Oper.wp P o a w K Q:=by
 obtain ⟨ad',e',_,hc⟩:=hr.2 hm
 injection e' with e'
 subst e'
 obtain ⟨v',w',hr1,h2,h3,_,h4⟩:=run_append_own_at (P:=P) w base t o.type e i z size bytes ht hi hz hsize hby hzs hsz v n xs hown ad m c news hr.1 hc h1 h63 hbytes hbase
 unfold Oper.wp execOp
 simp only[ho,resolve,invoke,builtin,Sem.run_bind,Sem.run_pure,Result.andThen_ok,List.map_toArray,List.map_cons,List.map_nil,hs,hx,hr1]
 exact h v' w' h2 h3 h4
theorem own_setX {base:Nat} {e:TypeId} {size n:Nat} {v:Value} {xs:List Value} (h:w.ownsRow base e size v n xs) {p:Addr} (hp:p.block<base) (u:Value):(w.setCell p u).ownsRow base e size v n xs:=by
 obtain ⟨h1,⟨hv,h0⟩|⟨g',cap,cur,hv,hb,hh,h2⟩⟩:=h
 ·
  exact ⟨h1, .inl ⟨hv,h0⟩⟩
 ·
  exact ⟨h1, .inr ⟨g',cap,cur,hv,hb,(Below.heap_setCell w p u g' (by omega)).trans hh,h2⟩⟩
end
theorem hasPrefix_open (r:List UInt8):Lib.hasPrefix r [63,58]=(headIs 63 r&&headIs 58 (r.drop 1)):=by
 have h0:∀(n:Nat) (hn:n<256) (c:UInt8),((UInt8.ofNat n)==c)=(c.toNat==n):=fun n hn c=>by
  by_cases h:c.toNat=n
  ·
   have:c=UInt8.ofNat n:=by rw[←h];simp
   subst this
   simp[UInt8.toNat_ofNat,Nat.mod_eq_of_lt hn]
  ·
   rw[beq_eq_false_iff_ne.2 h]
   refine beq_eq_false_iff_ne.2 (fun e=>h ?_)
   rw[←e];simp[UInt8.toNat_ofNat,Nat.mod_eq_of_lt hn]
 match r with
 | []=>rfl
 | [c]=>simp[Lib.hasPrefix,List.isPrefixOf,headIs]
 | c::d::t=>
  show (((63:UInt8)==c)&&(((58:UInt8)==d)&&true))=((c.toNat==63)&&(d.toNat==58))
  rw[show (63:UInt8)=UInt8.ofNat 63 from rfl,show (58:UInt8)=UInt8.ofNat 58 from rfl,h0 63 (by decide),h0 58 (by decide),Bool.and_true]
theorem group_all {w:World} {R n:Nat} {s:ByteArray} {q:Rs} (Wf:Rs→Pc×Rs) (hWf:∀s,Gd 0 s (Wf s).2) (h:Rdr w R s n q) (hs:(s.size:Int)≤4096) (hg:q.groups≤5000) (hd:q.deep≤5000)
  (HW:∀W m,Rdr W R s m (openS {q with deep:=q.deep+1}).2→Calls Tryz.prog 45 #[.pointer (some ⟨R,0,none⟩)] W (RetP R s W (Wf (openS {q with deep:=q.deep+1}).2).1 (Wf (openS {q with deep:=q.deep+1}).2).2)) :
  Calls Tryz.prog 138 #[.pointer (some ⟨R,0,none⟩)] w (RetP R s w (groupS Wf q).1 (groupS Wf q).2):=by
 unfold groupS
 by_cases h64:64≤q.deep
 ·
  rw[show Nat.ble 64 q.deep=true from (by rw[Nat.ble_eq];exact h64)]
  exact group_over h hs h64 hd
 ·
  have e64:Nat.ble 64 q.deep=false:=by
   cases e:Nat.ble 64 q.deep with
   | false=>rfl
   | true=>rw[Nat.ble_eq] at e;exact absurd e h64
  rw[e64]
  have hp:=hasPrefix_open q.rest
  have ho:=hWf (openS {q with deep:=q.deep+1}).2
  have hod:=(openS_gd {q with deep:=q.deep+1}).2.2.1
  have ht:∀t:Rs,t=(Wf (openS {q with deep:=q.deep+1}).2).2→t.bad=false→t.deep=q.deep+1:=fun t e hb=>by subst e;rw[ho.e hb,hod]
  cases hx:(headIs 63 q.rest&&headIs 58 (q.rest.drop 1))
  ·
   rw[hx] at hp
   have eo:openS {q with deep:=q.deep+1}=(q.groups+1,{q with deep:=q.deep+1,groups:=q.groups+1}):=by unfold openS;simp only[hx,cond_false]
   rw[eo] at HW ht ⊢
   exact group_false h hs (by omega) hp hg _ _ (ht _ rfl) HW
  ·
   rw[hx] at hp
   have eo:openS {q with deep:=q.deep+1}=(0,{q with deep:=q.deep+1,rest:=q.rest.drop 2}):=by unfold openS;simp only[hx,cond_true]
   obtain ⟨c,d,r,hq⟩:∃c d r,q.rest=c::d::r:=by
    match e:q.rest with
    | []=>rw[e] at hx;cases hx
    | [c]=>rw[e] at hx;simp[headIs] at hx
    | c::d::r=>exact ⟨c,d,r,rfl⟩
   rw[eo] at HW ht ⊢
   have e2:q.rest.drop 2=r:=by rw[hq];rfl
   rw[e2] at HW ht ⊢
   exact group_true h hs (by omega) hq hp _ _ (ht _ rfl) HW
theorem ptrs_one (l:List Nat):∀u∈ptrs l,u.oneCell'=true:=by
 intro u hu
 simp only[ptrs,List.mem_map] at hu
 obtain ⟨b,_,rfl⟩:=hu
 rfl
theorem info_ptr:(Tryz.prog.info? 78).map (fun i=>(i.zero,i.size,i.bytes))=some (some (.pointer none),1,8):=by kernel_rfl
theorem PcL.app_nil:∀l:PcL,l.app .nil=l
 | .nil=>rfl
 | .cons p l=>by simp only[PcL.app,PcL.app_nil l]
theorem PcL.app_snoc (p:Pc) (t:PcL):∀l:List Pc,(PcL.ofList (l++[p])).app t=(PcL.ofList l).app (.cons p t)
 | []=>rfl
 | q::l=>by simp only[List.cons_append,PcL.ofList,PcL.app,PcL.app_snoc p t l]
def NS (P:Nat) (A:Option Addr) (k c:Nat) (W:World):Prop:=Node W P 10 [] (.slice A k c) 0 false∧W.frozen? ⟨P,2,none⟩=false∧P<W.heap.size
theorem NS.gx {P k c R:Nat} {A:Option Addr} {W W':World} (h:NS P A k c W) (x:GX R W W') (hn:P≠R):NS P A k c W':=⟨h.1.gx x h.2.2 hn,(x.frozen (p:=⟨P,2,none⟩) h.2.2 hn).trans h.2.1,Nat.lt_of_lt_of_le h.2.2 x.size⟩
theorem NS.gr {P k c:Nat} {A:Option Addr} {W W':World} (h:NS P A k c W) (x:Gr W W'):NS P A k c W':=h.gx (GX.of_gr (R:=P+1) x) (by omega)
theorem NS.drew {P k c:Nat} {A:Option Addr} {W:World} (h:NS P A k c W):NS P A k c W.drew:=h.gr (Gr.drew (Gr.refl _))
theorem NS.grown {P k c:Nat} {A:Option Addr} {W W':World} {row:Option Nat} (h:NS P A k c W) (x:W.grownBy W' row) (hn:row≠some P):NS P A k c W':=by
 have e:W'.heap[P]?=W.heap[P]?:=x.block P h.2.2 (fun e=>hn e.symm)
 obtain ⟨⟨n0,n1,n2,n3,n4⟩,hf,hz⟩:=h
 exact ⟨⟨(World.cell?_of_block (a:=⟨P,0,none⟩) e).trans n0,(World.cell?_of_block (a:=⟨P,1,none⟩) e).trans n1,(World.cell?_of_block (a:=⟨P,2,none⟩) e).trans n2,(World.cell?_of_block (a:=⟨P,3,none⟩) e).trans n3,(World.cell?_of_block (a:=⟨P,4,none⟩) e).trans n4⟩,(World.frozen?_of_block (a:=⟨P,2,none⟩) e).trans hf,Nat.lt_of_lt_of_le hz x.size⟩
end Go.Proofs.YtnphdacibageiaaGreat
