import Derived.Test.YtnphdacibageiaaGreatRunRxSet
import Derived.Deep.QuietTactic
import Derived.BigQuiet
import Derived.Test.YtnphdacibageiaaGreatRunPkVis
import Derived.Test.YtnphdacibageiaaGreatRunFpRow
import Derived.IntWalk
import Derived.Deep.Light
import Derived.Deep.Cut
import Derived.Deep.CutRange
set_option linter.all false
set_option maxRecDepth 1000000
set_option maxHeartbeats 12800000
namespace Go.Proofs.YtnphdacibageiaaGreat
open Go.RowKit
theorem Gr.drewM {a w:World} (h:Gr a w) (n:Nat):Gr a (w.drewN n):=⟨h.os,h.tape,h.output,h.size,h.block⟩
theorem drop_byte {s:ByteArray} {n:Nat} {c:UInt8} {r:List UInt8} (h:s.data.toList.drop n=c::r):∃hn:n<s.size,s[n]=c:=by
 have hl:n<s.data.toList.length:=by
  rcases Nat.lt_or_ge n s.data.toList.length with h1|h1
  ·
   exact h1
  ·
   rw[List.drop_eq_nil_of_le h1] at h;cases h
 refine ⟨by simpa using hl,?_⟩
 rw[List.drop_eq_getElem_cons hl] at h
 injection h with h1 _
theorem Rdr.byte {w:World} {R n:Nat} {s:ByteArray} {q:Rs} (h:Rdr w R s n q) {c:UInt8} {r:List UInt8} (hq:q.rest=c::r):∃hn:n<s.size,s[n]=c:=
 drop_byte (h.rest.trans hq)
theorem now_end {w:World} {R n:Nat} {s:ByteArray} {q:Rs} (h:Rdr w R s n q) (hs:(s.size:Int)≤4096) (hq:q.rest=[]) :
  Calls Tryz.prog 106 #[.pointer (some ⟨R,0,none⟩)] w fun e w'=>e= .returned (.tuple #[.int .u8 0, .bool false])∧Gr w w':=by
 have hl:=h.len
 rw[hq] at hl
 have hn:s.size≤n:=by simp at hl;omega
 obtain ⟨c0,c1⟩:=And.intro h.c0 h.c1
 clear h hq hl
 go_enter Tryz.func106,Tryz.ntmps106
 go_wp2
 go_quiet (fail)
 go_wp2
 go_ret2
 exact ⟨rfl,Gr.drewM (Gr.refl _) _⟩
theorem now_some {w:World} {R n:Nat} {s:ByteArray} {q:Rs} (h:Rdr w R s n q) (hs:(s.size:Int)≤4096) {c:UInt8} {r:List UInt8} (hq:q.rest=c::r) :
  Calls Tryz.prog 106 #[.pointer (some ⟨R,0,none⟩)] w fun e w'=>e= .returned (.tuple #[.int .u8 c.toNat, .bool true])∧Gr w w':=by
 obtain ⟨hn,hb⟩:=h.byte hq
 obtain ⟨c0,c1⟩:=And.intro h.c0 h.c1
 have hn':(n:Int)<s.size:=by omega
 clear h hq
 go_enter Tryz.func106,Tryz.ntmps106
 go_wp2
 go_quiet (fail)
 go_wp2
 go_quiet (fail)
 go_wp2
 go_ret2
 exact ⟨rfl,Gr.drewM (Gr.drewM (Gr.refl _) _) _⟩
theorem is_no {w:World} {R n:Nat} {s:ByteArray} {q:Rs} (h:Rdr w R s n q) (hs:(s.size:Int)≤4096) (c:Nat) (hc:c<256) (hq:headIs c q.rest=false) :
  Calls Tryz.prog 108 #[.pointer (some ⟨R,0,none⟩), .int .u8 c] w fun e w'=>e= .returned (.bool false)∧Gr w w':=by
 match e:q.rest with
 | []=>
  have Q:=fun w (h:Rdr w R s n q)=>now_end h hs e
  go_enter Tryz.func108,Tryz.ntmps108
  go_wp2_with (go_at_call 106;refine (Q _ h).mono ?_;rintro e w1 ⟨rfl,hg⟩)
  go_ret
  exact ⟨rfl,hg⟩
 | b::r=>
  rw[e] at hq
  have hne:((b.toNat:Int)==(c:Int))=false:=by
   have:¬b.toNat=c:=by simpa [headIs] using hq
   exact beq_eq_false_iff_ne.2 (by omega)
  have hne':(b.toNat==c)=false:=by simpa [headIs] using hq
  have Q:=fun w (h:Rdr w R s n q)=>now_some h hs e
  clear hq
  go_enter Tryz.func108,Tryz.ntmps108
  go_wp2_with (go_at_call 106;refine (Q _ h).mono ?_;rintro e w1 ⟨rfl,hg⟩)
  go_ret
  exact ⟨rfl,hg⟩
theorem is_yes {w:World} {R n:Nat} {s:ByteArray} {q:Rs} (h:Rdr w R s n q) (hs:(s.size:Int)≤4096) (c:Nat) (hc:c<256) (hq:headIs c q.rest=true) :
  Calls Tryz.prog 108 #[.pointer (some ⟨R,0,none⟩), .int .u8 c] w fun e w'=>e= .returned (.bool true)∧Gr w w':=by
 match e:q.rest with
 | []=>rw[e] at hq;cases hq
 | b::r=>
  rw[e] at hq
  have hb:b.toNat=c:=by simpa [headIs] using hq
  subst hb
  have Q:=fun w (h:Rdr w R s n q)=>now_some h hs e
  clear hq
  go_enter Tryz.func108,Tryz.ntmps108
  go_wp2_with (go_at_call 106;refine (Q _ h).mono ?_;rintro e w1 ⟨rfl,hg⟩)
  go_ret
  exact ⟨rfl,hg⟩
theorem headIs_cons {c:Nat} {l:List UInt8} (h:headIs c l=true):∃b r,l=b::r∧b.toNat=c:=by
 cases l with
 | nil=>cases h
 | cons b r=>exact ⟨b,r,rfl,by simpa [headIs] using h⟩
theorem Rdr.next {w:World} {R n:Nat} {s:ByteArray} {q:Rs} (h:Rdr w R s n q) {c:UInt8} {r:List UInt8} (hq:q.rest=c::r):Rdr (w.setCell ⟨R,1,none⟩ (.int .i64 ((n:Int)+1))) R s (n+1) {q with rest:=r}:=by
 have hl:=h.len
 have hr:=h.rest
 rw[hq] at hl hr
 refine ⟨by simp at hl ⊢;omega,?_,?_,?_,?_,?_,?_,?_,?_,?_,?_,?_,?_,?_⟩
 ·
  show s.data.toList.drop (n+1)=r
  rw[←List.drop_drop,hr];rfl
 ·
  exact (World.cell?_setCell_other w ⟨R,1,none⟩ ⟨R,0,none⟩ _ (by simp)).trans h.c0
 ·
  have:=h.c1;have:=h.f1;go_simp
 ·
  exact (World.cell?_setCell_other w ⟨R,1,none⟩ ⟨R,2,none⟩ _ (by simp)).trans h.c2
 ·
  exact (World.cell?_setCell_other w ⟨R,1,none⟩ ⟨R,3,none⟩ _ (by simp)).trans h.c3
 ·
  exact (World.cell?_setCell_other w ⟨R,1,none⟩ ⟨R,4,none⟩ _ (by simp)).trans h.c4
 ·
  exact (World.cell?_setCell_other w ⟨R,1,none⟩ ⟨R,5,none⟩ _ (by simp)).trans h.c5
 ·
  exact (by simp:(w.setCell ⟨R,1,none⟩ _).frozen? ⟨R,1,none⟩=w.frozen? ⟨R,1,none⟩).trans h.f1
 ·
  exact (by simp:(w.setCell ⟨R,1,none⟩ _).frozen? ⟨R,2,none⟩=w.frozen? ⟨R,2,none⟩).trans h.f2
 ·
  exact (by simp:(w.setCell ⟨R,1,none⟩ _).frozen? ⟨R,3,none⟩=w.frozen? ⟨R,3,none⟩).trans h.f3
 ·
  exact (by simp:(w.setCell ⟨R,1,none⟩ _).frozen? ⟨R,4,none⟩=w.frozen? ⟨R,4,none⟩).trans h.f4
 ·
  exact (by simp:(w.setCell ⟨R,1,none⟩ _).frozen? ⟨R,5,none⟩=w.frozen? ⟨R,5,none⟩).trans h.f5
 ·
  simpa using h.lt
theorem takes_no {w:World} {R n:Nat} {s:ByteArray} {q:Rs} (h:Rdr w R s n q) (hs:(s.size:Int)≤4096) (c:Nat) (hc:c<256) (hq:headIs c q.rest=false) :
  Calls Tryz.prog 79 #[.pointer (some ⟨R,0,none⟩), .int .u8 c] w fun e w'=>e= .returned (.bool false)∧Gr w w':=by
 have Q:=fun w (h:Rdr w R s n q)=>is_no h hs c hc hq
 clear hq
 go_enter Tryz.func79,Tryz.ntmps79
 go_wp2_with (go_at_call 108;refine (Q _ h).mono ?_;rintro e w1 ⟨rfl,hg⟩)
 go_ret
 exact ⟨rfl,hg⟩
theorem takes_yes {w:World} {R n:Nat} {s:ByteArray} {q:Rs} (h:Rdr w R s n q) (hs:(s.size:Int)≤4096) (c:Nat) (hc:c<256) (hq:headIs c q.rest=true) :
  Calls Tryz.prog 79 #[.pointer (some ⟨R,0,none⟩), .int .u8 c] w fun e w'=>e= .returned (.bool true)∧GX R w w'∧Rdr w' R s (n+1) {q with rest:=q.rest.drop 1}:=by
 have Q:=fun w (h:Rdr w R s n q)=>is_yes h hs c hc hq
 obtain ⟨b,r,hr, -⟩:=headIs_cons hq
 have hle:=h.len
 have hn:(n:Int)<4096:=by rw[hr] at hle;simp at hle;omega
 clear hq hle
 go_enter Tryz.func79,Tryz.ntmps79
 go_wp2_with fail
 refine (Q _ h).mono ?_;rintro e w1 ⟨rfl,hg⟩
 have h1:=h.gr hg
 obtain ⟨c1,f1⟩:=And.intro h1.c1 h1.f1
 clear Q
 go_wp2
 go_ret
 refine ⟨rfl,GX.setCell (p:=⟨R,1,none⟩) (GX.of_gr hg) (.inl rfl) _,?_⟩
 have hn:=h1.next hr
 rw[hr]
 exact hn
def RetBX (R:Nat) (s:ByteArray) (w:World) (x:Option Bs) (q:Rs) (e:Ending) (w':World):Prop:=
 ∃(f:Bs) (n:Nat),e= .returned (.tuple #[.agg (bsA f), .bool x.isSome])∧(∀g,x=some g→f=g)∧GX R w w'∧Rdr w' R s n q
theorem built_set:Tryz.prog.built 179 []=some (bsA noB):=by kernel_rfl
theorem wpList_build0 {P:Program} {ops:Array Oper} {rest:List Oper} {o:Oper} {a:Act} {w:World} {Q:Exit→Act→World→Prop} (hg:o.guard=none) (t:TypeId) (ho:o.op= .build t #[])
  (c:Array Value) (hb:P.built t []=some c) (h:wpList P ops Q rest (a.put o.dst (.agg c)) w):wpList P ops Q (o::rest) a w:=
 wpList_build hg t #[] ho (by simp[hb]) (by simpa [hb] using h)
theorem Rdr.setRow {w:World} {R n:Nat} {s:ByteArray} {q:Rs} (h:Rdr w R s n q) {g:Nat} (hg:R≠g) (cs:Array Value):Rdr (w.setRow g cs) R s n q:=by
 have e:(w.setRow g cs).heap[R]?=w.heap[R]?:=setRow_other w g R cs hg
 have hc:∀i,(w.setRow g cs).cell? ⟨R,i,none⟩=w.cell? ⟨R,i,none⟩:=fun i=>World.cell?_of_block (a:=⟨R,i,none⟩) e
 have hf:∀i,(w.setRow g cs).frozen? ⟨R,i,none⟩=w.frozen? ⟨R,i,none⟩:=fun i=>World.frozen?_of_block (a:=⟨R,i,none⟩) e
 exact ⟨h.len,h.rest,(hc 0).trans h.c0,(hc 1).trans h.c1,(hc 2).trans h.c2,(hc 3).trans h.c3,(hc 4).trans h.c4,(hc 5).trans h.c5,(hf 1).trans h.f1,(hf 2).trans h.f2,(hf 3).trans h.f3,(hf 4).trans h.f4,(hf 5).trans h.f5,by simpa using h.lt⟩
theorem esc_any {w:World} {R n:Nat} {s:ByteArray} {q:Rs} (h:Rdr w R s n q) (hs:(s.size:Int)≤4096) :
  Calls Tryz.prog 144 #[.pointer (some ⟨R,0,none⟩)] w (RetBX R s w (escS q.rest).1 {q with rest:=(escS q.rest).2}):=by
 obtain ⟨hz,hsz⟩:=zero_of_info info_set
 have g0:Gr w (w.alloc (Obj.cells (bsA noB) 179)):=gq
 have r0:SetAt (w.alloc (Obj.cells (bsA noB) 179)) w.heap.size noB:=SetAt.new w noB
 have hRw:=h.lt
 match e:q.rest with
 | []=>
  have Q:=fun w (h:Rdr w R s n q)=>now_end h hs e
  go_enter Tryz.func144,Tryz.ntmps144
  go_upto_region 1 with (fail)
  generalize (w.alloc (Obj.cells (bsA noB) 179))=w0 at g0 r0 ⊢
  have h0:=h.gr g0
  clear hz hsz h
  go_upto_region 3 with (go_at_call 106;refine (Q _ h0).mono ?_;rintro e w1 ⟨rfl,hg⟩)
  have h1:=h0.gr hg
  have g1:=Gr.trans g0 hg
  have r1:=r0.gr hg
  clear Q g0 r0 h0 hg
  go_wp2_with (first
   | (refine wpList_build0 rfl 179 rfl (bsA noB) built_set ?_)
   | (refine wpList_store_row rfl 179 (.tmp 2) (.tmp 17) rfl w.heap.size (bsA noB) rfl rfl _ _ r1 (size_bsA _) (by simp only[bsA_size]) (bsA_one _) ?_))
  refine bodyPost_ret (v:= .tuple #[.agg (bsA noB), .bool false]) (res_set2 _ 2 3 (by kernel_rfl) _ _ w.heap.size _ _ rfl rfl (SetAt.row r1)) rfl ⟨noB,n,rfl,(fun _ h=>by cases h),GX.of_gr (Gr.setRow g1 (Nat.le_refl _) _),?_⟩
  have h2:=h1.setRow (g:=w.heap.size) (by omega) (bsA noB)
  have e':q={q with rest:=[]}:=by rw[←e]
  rw[e'] at h2
  exact h2
 | c::r=>
  have Q:=fun w (h:Rdr w R s n q)=>now_some h hs e
  have hle:=h.len
  have hn:(n:Int)<4096:=by rw[e] at hle;simp at hle;omega
  have hc256:c.toNat<256:=c.toNat_lt
  have hw0:R<w.heap.size:=h.lt
  clear hle
  have QN:=fun w=>named_any c.toNat w hc256
  cases hnm:namedB c.toNat with
  | some f=>
   have e1:nmB c.toNat=f:=by simp[nmB,hnm]
   have e2:isNamed c.toNat=true:=by simp[isNamed,hnm]
   have e3:escS (c::r)=(some f,r):=by simp[escS,hnm]
   rw[e1,e2] at QN
   rw[e3]
   clear e1 e2 e3 hnm
   go_enter Tryz.func144,Tryz.ntmps144
   go_upto_region 1 with (fail)
   generalize (w.alloc (Obj.cells (bsA noB) 179))=w0 at g0 r0 ⊢
   have h0:=h.gr g0
   clear hsz h
   go_upto_region 4 with (go_at_call 106;refine (Q _ h0).mono ?_;rintro e w1 ⟨rfl,hg⟩)
   have h1:=h0.gr hg
   have g1:=Gr.trans g0 hg
   have r1:=r0.gr hg
   clear Q g0 r0 h0 hg
   obtain ⟨c1,f1⟩:=And.intro h1.c1 h1.f1
   go_upto_region 5 with (fail)
   have h2:=h1.next e
   have x2:=GX.setCell (p:=⟨R,1,none⟩) (GX.of_gr g1) (.inl rfl) (.int .i64 ((n:Int)+1))
   have r2:=r1.other (p:=⟨R,1,none⟩) (by simp;omega) (.int .i64 ((n:Int)+1))
   clear c1 f1 h1 g1 r1
   generalize w1.setCell ⟨R,1,none⟩ (.int .i64 ((n:Int)+1))=w2 at h2 x2 r2 ⊢
   go_upto_region 7 with (first
    | (go_at_call 154;refine (QN _).mono ?_;rintro e w3 ⟨rfl,hg3⟩)
    | (refine wpList_store_row rfl 179 (.tmp 6) (.tmp 30) rfl w3.heap.size (bsA f) rfl rfl _ _ (SetAt.new w3 noB) (size_bsA _) (by simp only[bsA_size]) (bsA_one _) ?_))
   have S1:SetAt ((w3.alloc (.cells (bsA noB) 179)).setRow w3.heap.size (bsA f)) w3.heap.size f:=SetAt.row (SetAt.new w3 noB)
   have G1:Gr w2 ((w3.alloc (.cells (bsA noB) 179)).setRow w3.heap.size (bsA f)):=Gr.setRow (Gr.alloc hg3 _) hg3.size _
   generalize ((w3.alloc (.cells (bsA noB) 179)).setRow w3.heap.size (bsA f))=w4 at S1 G1 ⊢
   have h4:=h2.gr G1
   have x4:=x2.trans (GX.of_gr G1)
   have r4:=r2.gr G1
   clear QN hg3 h2 x2 r2 G1 hz
   go_wp2_with (first
    | (refine wpList_load_row rfl 179 (.tmp 6) rfl w3.heap.size rfl _ (bsA f) (0,0) _ S1 und_set rfl (size_bsA _) ?_)
    | (refine wpList_store_row rfl 179 (.tmp 2) (.tmp 33) rfl w.heap.size (bsA f) rfl rfl _ _ r4 (size_bsA _) (by simp only[bsA_size]) (bsA_one _) ?_))
   exact bodyPost_ret (v:= .tuple #[.agg (bsA f), .bool true]) (res_set2 _ 2 3 (by kernel_rfl) _ _ w.heap.size _ _ rfl rfl (SetAt.row r4)) rfl ⟨f,n+1,rfl,(fun g h=>by injection h),x4.setRow (.inr (Nat.le_refl _)) _,h4.setRow (g:=w.heap.size) (by omega) (bsA f)⟩
  | none=>
   have e1:nmB c.toNat=noB:=by simp[nmB,hnm]
   have e2:isNamed c.toNat=false:=by simp[isNamed,hnm]
   have e3:escS (c::r)=(bif isWordB c.toNat then none else some (oneB c.toNat),r):=by simp[escS,hnm]
   rw[e1,e2] at QN
   rw[e3]
   have QW:=fun w=>isWord_any c.toNat w hc256
   have QO:=fun w=>one_any c.toNat w hc256
   clear e1 e2 e3 hnm
   cases hwd:isWordB c.toNat
   all_goals
    simp only[hwd,cond_true,cond_false] at QW ⊢
    clear hwd
    go_enter Tryz.func144,Tryz.ntmps144
    go_upto_region 1 with (fail)
    generalize (w.alloc (Obj.cells (bsA noB) 179))=w0 at g0 r0 ⊢
    have h0:=h.gr g0
    clear hsz h
    go_upto_region 4 with (go_at_call 106;refine (Q _ h0).mono ?_;rintro e w1 ⟨rfl,hg⟩)
    have h1:=h0.gr hg
    have g1:=Gr.trans g0 hg
    have r1:=r0.gr hg
    clear Q g0 r0 h0 hg
    obtain ⟨c1,f1⟩:=And.intro h1.c1 h1.f1
    go_upto_region 5 with (fail)
    have h2:=h1.next e
    have x2:=GX.setCell (p:=⟨R,1,none⟩) (GX.of_gr g1) (.inl rfl) (.int .i64 ((n:Int)+1))
    have r2:=r1.other (p:=⟨R,1,none⟩) (by simp;omega) (.int .i64 ((n:Int)+1))
    clear c1 f1 h1 g1 r1
    generalize w1.setCell ⟨R,1,none⟩ (.int .i64 ((n:Int)+1))=w2 at h2 x2 r2 ⊢
    go_upto_region 8 with (first
     | (go_at_call 154;refine (QN _).mono ?_;rintro e w3 ⟨rfl,hg3⟩)
     | (refine wpList_store_row rfl 179 (.tmp 6) (.tmp 30) rfl w3.heap.size (bsA noB) rfl rfl _ _ (SetAt.new w3 noB) (size_bsA _) (by simp only[bsA_size]) (bsA_one _) ?_))
    have G1:Gr w2 ((w3.alloc (.cells (bsA noB) 179)).setRow w3.heap.size (bsA noB)):=Gr.setRow (Gr.alloc hg3 _) hg3.size _
    generalize ((w3.alloc (.cells (bsA noB) 179)).setRow w3.heap.size (bsA noB))=w4 at G1 ⊢
    clear QN hg3 hz
    go_wp2_with (first
     | (go_at_call 139;refine (QO _).mono ?_;rintro e w5 ⟨rfl,hg5⟩)
     | (go_at_call 155;refine (QW _).mono ?_;rintro e w6 ⟨rfl,hg6⟩;have G6:=Gr.trans G1 (Gr.trans hg5 hg6);have h6:=h2.gr G6;have x6:=x2.trans (GX.of_gr G6);have r6:=r2.gr G6;clear G6)
     | (refine wpList_store_row rfl 179 (.tmp 2) (.tmp 35) rfl w.heap.size (bsA (oneB c.toNat)) rfl rfl _ _ r6 (size_bsA _) (by simp only[bsA_size]) (bsA_one _) ?_))
   ·
    exact bodyPost_ret (v:= .tuple #[.agg (bsA (oneB c.toNat)), .bool true]) (res_set2 _ 2 3 (by kernel_rfl) _ _ w.heap.size _ _ rfl rfl (SetAt.row r6)) rfl ⟨oneB c.toNat,n+1,rfl,(fun g h=>by injection h),x6.setRow (.inr (Nat.le_refl _)) _,h6.setRow (g:=w.heap.size) (by omega) (bsA (oneB c.toNat))⟩
   ·
    exact bodyPost_ret (v:= .tuple #[.agg (bsA (oneB c.toNat)), .bool false]) (res_set2 _ 2 3 (by kernel_rfl) _ _ w.heap.size _ _ rfl rfl (SetAt.row r6)) rfl ⟨oneB c.toNat,n+1,rfl,(fun g h=>by cases h),x6.setRow (.inr (Nat.le_refl _)) _,h6.setRow (g:=w.heap.size) (by omega) (bsA (oneB c.toNat))⟩
theorem res_set4 (fn:Func) (p q r t:Tmp) (h:fn.results= #[.cell p 179, .tmp q, .tmp r, .tmp t]) (tmps:Array Value) (w:World) (g:Nat) (f:Bs) (b c d:Value) (hp:tmps.getD p undef= .pointer (some ⟨g,0,none⟩)) (hq:tmps.getD q undef=b) (hr:tmps.getD r undef=c) (ht:tmps.getD t undef=d) (hs:SetAt w g f) :
  (results fn tmps).run Tryz.prog w= .ok (.tuple #[.agg (bsA f),b,c,d]) w:=by
 have hp':tmps[p]?.getD undef= .pointer (some ⟨g,0,none⟩):=by simpa using hp
 have hq':tmps[q]?.getD undef=b:=by simpa using hq
 have hr':tmps[r]?.getD undef=c:=by simpa using hr
 have ht':tmps[t]?.getD undef=d:=by simpa using ht
 simp[results,h,hp',hq',hr',ht',asAddr,run_loadVar_row w g _ 179 (bsA f) (0,0) _ hs und_set rfl (size_bsA _)]
def RetD (R:Nat) (s:ByteArray) (w:World) (x:Option (Bs×Nat×Bool)) (q:Rs) (e:Ending) (w':World):Prop:=
 ∃(f:Bs) (c:Nat) (b:Bool) (n:Nat),e= .returned (.tuple #[.agg (bsA f), .int .u8 c, .bool b, .bool x.isSome])∧(∀g,x=some g→(f,c,b)=g∧c<256)∧GX R w w'∧Rdr w' R s n q
theorem esc_rest (d:UInt8) (t:List UInt8):(escS (d::t)).2=t:=by
 simp only[escS]
 cases namedB d.toNat<;>rfl
theorem side_any {w:World} {R n:Nat} {s:ByteArray} {q:Rs} (h:Rdr w R s n q) (hs:(s.size:Int)≤4096) :
  Calls Tryz.prog 150 #[.pointer (some ⟨R,0,none⟩)] w (RetD R s w (sideS q.rest).1 {q with rest:=(sideS q.rest).2}):=by
 obtain ⟨hz,hsz⟩:=zero_of_info info_set
 have g0:Gr w (w.alloc (Obj.cells (bsA noB) 179)):=gq
 have r0:SetAt (w.alloc (Obj.cells (bsA noB) 179)) w.heap.size noB:=SetAt.new w noB
 have hRw:=h.lt
 match e:q.rest with
 | []=>
  have Q:=fun w (h:Rdr w R s n q)=>now_end h hs e
  go_enter Tryz.func150,Tryz.ntmps150
  go_upto_region 1 with (fail)
  generalize (w.alloc (Obj.cells (bsA noB) 179))=w0 at g0 r0 ⊢
  have h0:=h.gr g0
  clear hz hsz h
  go_upto_region 3 with (go_at_call 106;refine (Q _ h0).mono ?_;rintro e w1 ⟨rfl,hg⟩)
  have h1:=h0.gr hg
  have g1:=Gr.trans g0 hg
  have r1:=r0.gr hg
  clear Q g0 r0 h0 hg
  go_wp2_with (first
   | (refine wpList_load_row rfl 179 (.tmp 2) rfl w.heap.size rfl _ (bsA noB) (0,0) _ r1 und_set rfl (size_bsA _) ?_)
   | (refine wpList_store_row rfl 179 (.tmp 2) (.tmp 15) rfl w.heap.size (bsA noB) rfl rfl _ _ r1 (size_bsA _) (by simp only[bsA_size]) (bsA_one _) ?_))
  have e':q={q with rest:=[]}:=by rw[←e]
  rw[e'] at h1
  exact bodyPost_ret (v:= .tuple #[.agg (bsA noB), .int .u8 0, .bool false, .bool false]) (res_set4 _ 2 3 4 5 (by kernel_rfl) _ _ w.heap.size _ _ _ _ rfl rfl rfl rfl (SetAt.row r1)) rfl ⟨noB,0,false,n,rfl,(fun _ h=>by cases h),(GX.of_gr g1).setRow (.inr (Nat.le_refl _)) _,h1.setRow (g:=w.heap.size) (by omega) _⟩
 | c::r=>
  have Q:=fun w (h:Rdr w R s n q)=>now_some h hs e
  have hle:=h.len
  have hn:(n:Int)<4096:=by rw[e] at hle;simp at hle;omega
  have hc256:c.toNat<256:=c.toNat_lt
  clear hle
  by_cases h92:c.toNat=92
  case neg=>
   have q92:((c.toNat:Int) != 92)=true:=by simp[bne,beq_eq_false_iff_ne.2 (show (c.toNat:Int)≠92 by omega)]
   have e3:sideS (c::r)=(some (oneB c.toNat,c.toNat,false),r):=by simp[sideS,beq_eq_false_iff_ne.2 h92]
   rw[e3]
   have QO:=fun w=>one_any c.toNat w hc256
   clear e3 h92
   go_enter Tryz.func150,Tryz.ntmps150
   go_upto_region 1 with (fail)
   generalize (w.alloc (Obj.cells (bsA noB) 179))=w0 at g0 r0 ⊢
   have h0:=h.gr g0
   clear hz hsz h
   go_upto_region 4 with (go_at_call 106;refine (Q _ h0).mono ?_;rintro e w1 ⟨rfl,hg⟩)
   have h1:=h0.gr hg
   have g1:=Gr.trans g0 hg
   have r1:=r0.gr hg
   clear Q g0 r0 h0 hg
   obtain ⟨c1,f1⟩:=And.intro h1.c1 h1.f1
   go_upto_region 5 with (fail)
   have h2:=h1.next e
   have x2:=GX.setCell (p:=⟨R,1,none⟩) (GX.of_gr g1) (.inl rfl) (.int .i64 ((n:Int)+1))
   have r2:=r1.other (p:=⟨R,1,none⟩) (by simp;omega) (.int .i64 ((n:Int)+1))
   clear c1 f1 h1 g1 r1
   generalize w1.setCell ⟨R,1,none⟩ (.int .i64 ((n:Int)+1))=w2 at h2 x2 r2 ⊢
   go_wp2_with (first
    | (go_at_call 139;refine (QO _).mono ?_;rintro e w5 ⟨rfl,hg5⟩;have h5:=h2.gr hg5;have x5:=x2.trans (GX.of_gr hg5);have r5:=r2.gr hg5)
    | (refine wpList_store_row rfl 179 (.tmp 2) (.tmp 28) rfl w.heap.size (bsA (oneB c.toNat)) rfl rfl _ _ r5 (size_bsA _) (by simp only[bsA_size]) (bsA_one _) ?_))
   exact bodyPost_ret (v:= .tuple #[.agg (bsA (oneB c.toNat)), .int .u8 c.toNat, .bool false, .bool true]) (res_set4 _ 2 3 4 5 (by kernel_rfl) _ _ w.heap.size _ _ _ _ rfl rfl rfl rfl (SetAt.row r5)) rfl ⟨(oneB c.toNat),c.toNat,false,n+1,rfl,(fun g h=>⟨by injection h,hc256⟩),x5.setRow (.inr (Nat.le_refl _)) _,h5.setRow (g:=w.heap.size) (by omega) _⟩
  case pos=>
   have q92:((c.toNat:Int) != 92)=false:=by rw[h92];rfl
   match r,e with
   | [],e=>
    have e3:sideS (c::[])=(none,[]):=by simp[sideS,h92]
    rw[e3]
    clear e3 h92
    go_enter Tryz.func150,Tryz.ntmps150
    go_upto_region 1 with (fail)
    generalize (w.alloc (Obj.cells (bsA noB) 179))=w0 at g0 r0 ⊢
    have h0:=h.gr g0
    clear hz hsz h
    go_upto_region 4 with (go_at_call 106;refine (Q _ h0).mono ?_;rintro e w1 ⟨rfl,hg⟩)
    have h1:=h0.gr hg
    have g1:=Gr.trans g0 hg
    have r1:=r0.gr hg
    clear Q g0 r0 h0 hg
    obtain ⟨c1,f1⟩:=And.intro h1.c1 h1.f1
    go_upto_region 5 with (fail)
    have h2:=h1.next e
    have x2:=GX.setCell (p:=⟨R,1,none⟩) (GX.of_gr g1) (.inl rfl) (.int .i64 ((n:Int)+1))
    have r2:=r1.other (p:=⟨R,1,none⟩) (by simp;omega) (.int .i64 ((n:Int)+1))
    clear c1 f1 h1 g1 r1
    generalize w1.setCell ⟨R,1,none⟩ (.int .i64 ((n:Int)+1))=w2 at h2 x2 r2 ⊢
    have Q:=fun w (h:Rdr w R s (n+1) {q with rest:=[]})=>now_end h hs rfl
    go_upto_region 9 with (go_at_call 106;refine (Q _ h2).mono ?_;rintro e w3 ⟨rfl,hg⟩)
    have h3:=h2.gr hg
    have x3:=x2.trans (GX.of_gr hg)
    have r3:=r2.gr hg
    clear Q h2 x2 r2 hg
    go_wp2_with (first
     | (refine wpList_load_row rfl 179 (.tmp 2) rfl w.heap.size rfl _ (bsA noB) (0,0) _ r3 und_set rfl (size_bsA _) ?_)
     | (refine wpList_store_row rfl 179 (.tmp 2) (.tmp 39) rfl w.heap.size (bsA noB) rfl rfl _ _ r3 (size_bsA _) (by simp only[bsA_size]) (bsA_one _) ?_))
    exact bodyPost_ret (v:= .tuple #[.agg (bsA noB), .int .u8 0, .bool false, .bool false]) (res_set4 _ 2 3 4 5 (by kernel_rfl) _ _ w.heap.size _ _ _ _ rfl rfl rfl rfl (SetAt.row r3)) rfl ⟨noB,0,false,n+1,rfl,(fun _ h=>by cases h),x3.setRow (.inr (Nat.le_refl _)) _,h3.setRow (g:=w.heap.size) (by omega) _⟩
   | d::t,e=>
    have hd256:d.toNat<256:=d.toNat_lt
    have QN:=fun w=>named_any d.toNat w hd256
    have et:=esc_rest d t
    have QE:∀w,Rdr w R s (n+1) {q with rest:=d::t}→Calls Tryz.prog 144 #[.pointer (some ⟨R,0,none⟩)] w (RetBX R s w (escS (d::t)).1 {q with rest:=t}):=fun w h=>by
     have h0:=esc_any h hs
     simp only[esc_rest] at h0
     exact h0
    cases hx:(escS (d::t)).1 with
    | some f=>
     have e3:sideS (c::d::t)=(some (f,d.toNat,isNamed d.toNat),t):=by
      have:escS (d::t)=(some f,t):=Prod.ext hx et
      simp[sideS,h92,this]
     rw[e3]
     rw[hx] at QE
     clear e3 h92 et hx
     go_enter Tryz.func150,Tryz.ntmps150
     go_upto_region 1 with (fail)
     generalize (w.alloc (Obj.cells (bsA noB) 179))=w0 at g0 r0 ⊢
     have h0:=h.gr g0
     clear hz hsz h
     go_upto_region 4 with (go_at_call 106;refine (Q _ h0).mono ?_;rintro e w1 ⟨rfl,hg⟩)
     have h1:=h0.gr hg
     have g1:=Gr.trans g0 hg
     have r1:=r0.gr hg
     clear Q g0 r0 h0 hg
     obtain ⟨c1,f1⟩:=And.intro h1.c1 h1.f1
     go_upto_region 5 with (fail)
     have h2:=h1.next e
     have x2:=GX.setCell (p:=⟨R,1,none⟩) (GX.of_gr g1) (.inl rfl) (.int .i64 ((n:Int)+1))
     have r2:=r1.other (p:=⟨R,1,none⟩) (by simp;omega) (.int .i64 ((n:Int)+1))
     clear c1 f1 h1 g1 r1
     generalize w1.setCell ⟨R,1,none⟩ (.int .i64 ((n:Int)+1))=w2 at h2 x2 r2 ⊢
     have Q:=fun w (h:Rdr w R s (n+1) {q with rest:=d::t})=>now_some h hs rfl
     go_upto_region 12 with (first
      | (go_at_call 106;refine (Q _ h2).mono ?_;rintro e w3 ⟨rfl,hg⟩;have h3:=h2.gr hg;have x3:=x2.trans (GX.of_gr hg);have r3:=r2.gr hg;clear Q h2 x2 r2 hg)
      | (go_at_call 154;refine (QN _).mono ?_;rintro e w4 ⟨rfl,hg⟩;have h4:=h3.gr hg;have x4:=x3.trans (GX.of_gr hg);have r4:=r3.gr hg;clear h3 x3 r3 hg)
      | (go_at_call 144;refine (QE _ h4).mono ?_;rintro e w5 ⟨f',n5,rfl,hf,hg,h5⟩;obtain rfl:=hf f rfl;have x5:=x4.trans hg;have r5:=r4.gx hg (by omega);clear hf hg h4 x4 r4)
      | (refine wpList_store_row rfl 179 (.tmp 2) (.tmp 48) rfl w.heap.size (bsA f') rfl rfl _ _ r5 (size_bsA _) (by simp only[bsA_size]) (bsA_one _) ?_))
     have h6:=h5.setRow (g:=w.heap.size) (by omega) (bsA f')
     have x6:=x5.setRow (g:=w.heap.size) (.inr (Nat.le_refl _)) (bsA f')
     have r6:=SetAt.row (f:=f') r5
     generalize w5.setRow w.heap.size (bsA f')=w6 at h6 x6 r6 ⊢
     clear h5 x5 r5 QE QN
     go_wp2_with (first
      | (refine wpList_load_row rfl 179 (.tmp 2) rfl w.heap.size rfl _ (bsA f') (0,0) _ r6 und_set rfl (size_bsA _) ?_)
      | (refine wpList_store_row rfl 179 (.tmp 2) (.tmp 50) rfl w.heap.size (bsA f') rfl rfl _ _ r6 (size_bsA _) (by simp only[bsA_size]) (bsA_one _) ?_))
     exact bodyPost_ret (v:= .tuple #[.agg (bsA f'), .int .u8 d.toNat, .bool (isNamed d.toNat), .bool true]) (res_set4 _ 2 3 4 5 (by kernel_rfl) _ _ w.heap.size _ _ _ _ rfl rfl rfl rfl (SetAt.row r6)) rfl ⟨f',d.toNat,(isNamed d.toNat),n5,rfl,(fun g h=>⟨by injection h,hd256⟩),x6.setRow (.inr (Nat.le_refl _)) _,h6.setRow (g:=w.heap.size) (by omega) _⟩
    | none=>
     have e3:sideS (c::d::t)=(none,t):=by
      have:escS (d::t)=(none,t):=Prod.ext hx et
      simp[sideS,h92,this]
     rw[e3]
     rw[hx] at QE
     clear e3 h92 et hx
     go_enter Tryz.func150,Tryz.ntmps150
     go_upto_region 1 with (fail)
     generalize (w.alloc (Obj.cells (bsA noB) 179))=w0 at g0 r0 ⊢
     have h0:=h.gr g0
     clear hz hsz h
     go_upto_region 4 with (go_at_call 106;refine (Q _ h0).mono ?_;rintro e w1 ⟨rfl,hg⟩)
     have h1:=h0.gr hg
     have g1:=Gr.trans g0 hg
     have r1:=r0.gr hg
     clear Q g0 r0 h0 hg
     obtain ⟨c1,f1⟩:=And.intro h1.c1 h1.f1
     go_upto_region 5 with (fail)
     have h2:=h1.next e
     have x2:=GX.setCell (p:=⟨R,1,none⟩) (GX.of_gr g1) (.inl rfl) (.int .i64 ((n:Int)+1))
     have r2:=r1.other (p:=⟨R,1,none⟩) (by simp;omega) (.int .i64 ((n:Int)+1))
     clear c1 f1 h1 g1 r1
     generalize w1.setCell ⟨R,1,none⟩ (.int .i64 ((n:Int)+1))=w2 at h2 x2 r2 ⊢
     have Q:=fun w (h:Rdr w R s (n+1) {q with rest:=d::t})=>now_some h hs rfl
     go_upto_region 12 with (first
      | (go_at_call 106;refine (Q _ h2).mono ?_;rintro e w3 ⟨rfl,hg⟩;have h3:=h2.gr hg;have x3:=x2.trans (GX.of_gr hg);have r3:=r2.gr hg;clear Q h2 x2 r2 hg)
      | (go_at_call 154;refine (QN _).mono ?_;rintro e w4 ⟨rfl,hg⟩;have h4:=h3.gr hg;have x4:=x3.trans (GX.of_gr hg);have r4:=r3.gr hg;clear h3 x3 r3 hg)
      | (go_at_call 144;refine (QE _ h4).mono ?_;rintro e w5 ⟨f',n5,rfl,hf,hg,h5⟩;have x5:=x4.trans hg;have r5:=r4.gx hg (by omega);clear hf hg h4 x4 r4)
      | (refine wpList_store_row rfl 179 (.tmp 2) (.tmp 48) rfl w.heap.size (bsA f') rfl rfl _ _ r5 (size_bsA _) (by simp only[bsA_size]) (bsA_one _) ?_))
     have h6:=h5.setRow (g:=w.heap.size) (by omega) (bsA f')
     have x6:=x5.setRow (g:=w.heap.size) (.inr (Nat.le_refl _)) (bsA f')
     have r6:=SetAt.row (f:=f') r5
     generalize w5.setRow w.heap.size (bsA f')=w6 at h6 x6 r6 ⊢
     clear h5 x5 r5 QE QN
     go_wp2_with (first
      | (refine wpList_load_row rfl 179 (.tmp 2) rfl w.heap.size rfl _ (bsA f') (0,0) _ r6 und_set rfl (size_bsA _) ?_)
      | (refine wpList_store_row rfl 179 (.tmp 2) (.tmp 50) rfl w.heap.size (bsA f') rfl rfl _ _ r6 (size_bsA _) (by simp only[bsA_size]) (bsA_one _) ?_))
     exact bodyPost_ret (v:= .tuple #[.agg (bsA f'), .int .u8 d.toNat, .bool (isNamed d.toNat), .bool false]) (res_set4 _ 2 3 4 5 (by kernel_rfl) _ _ w.heap.size _ _ _ _ rfl rfl rfl rfl (SetAt.row r6)) rfl ⟨f',d.toNat,(isNamed d.toNat),n5,rfl,(fun g h=>by cases h),x6.setRow (.inr (Nat.le_refl _)) _,h6.setRow (g:=w.heap.size) (by omega) _⟩
theorem wrap_in (x:Int) (h:0≤x) (h':x≤1000000):IntKind.i64.wrap x=x:=IntWalk.i64_in x ⟨by omega,by omega⟩
theorem rng_no {w:World} {R n:Nat} {s:ByteArray} {q:Rs} (h:Rdr w R s n q) (hs:(s.size:Int)≤4096) (hq:headIs 45 q.rest=false) :
  Calls Tryz.prog 151 #[.pointer (some ⟨R,0,none⟩)] w fun e w'=>e= .returned (.bool false)∧Gr w w':=by
 have QI:=fun w (h:Rdr w R s n q)=>is_no h hs 45 (by decide) hq
 clear hq
 have HF:Hid (∀W,Gr w W→W.cell? ⟨R,0,none⟩=some (.string s)∧W.cell? ⟨R,1,none⟩=some (.int .i64 n)):=Lib.hid (fun W hW=>⟨(hW.cell (p:=⟨R,0,none⟩) h.lt).trans h.c0,(hW.cell (p:=⟨R,1,none⟩) h.lt).trans h.c1⟩)
 go_enter Tryz.func151,Tryz.ntmps151
 go_wp2
 refine region_R (by kernel_rfl) (by kernel_rfl) ?_
 iterate 3 (refine rv ?_;simp only[Pu])
 refine r_call (v:= .bool false) (f:=?qf4) (args:=?qa4) (by kernel_rfl) (fun W hW=>?qh4) (fun W hW=>?qc4) ?qr4
 case qh4=>go_light;go_simp;constructor<;>rfl
 case qc4=>exact (QI W (h.gr hW)).mono (fun e w' h=>⟨h.1,Gr.trans hW h.2⟩)
 simp only[Pu]
 iterate 2 (refine rv ?_;simp only[Pu])
 iterate 13 (refine rs ?_;simp only[Pu])
 iterate 2 (refine rv ?_;simp only[Pu])
 iterate 13 (refine rs ?_;simp only[Pu])
 refine rv ?_;simp only[Pu]
 refine r_nil ?_
 intro w1 hg1
 go_wp2
 go_ret
 exact ⟨rfl,hg1⟩
theorem rng_end {w:World} {R n:Nat} {s:ByteArray} {q:Rs} (h:Rdr w R s n q) (hs:(s.size:Int)≤4096) {c:UInt8} (hc:c.toNat=45) (hq:q.rest=[c]) :
  Calls Tryz.prog 151 #[.pointer (some ⟨R,0,none⟩)] w fun e w'=>e= .returned (.bool false)∧Gr w w':=by
 have QI:=fun w (h:Rdr w R s n q)=>is_yes h hs 45 (by decide) (by rw[hq];simp[headIs,hc])
 have hl:=h.len
 rw[hq] at hl
 simp at hl
 have hd1:decide ((n:Int)+1≥(s.size:Int))=true:=decide_eq_true (by omega)
 have hd1':(s.size:Int)≤(n:Int)+1:=by omega
 have hwr:=wrap_in ((n:Int)+1) (by omega) (by omega)
 clear hl
 clear hq
 have HF:Hid (∀W,Gr w W→W.cell? ⟨R,0,none⟩=some (.string s)∧W.cell? ⟨R,1,none⟩=some (.int .i64 n)):=Lib.hid (fun W hW=>⟨(hW.cell (p:=⟨R,0,none⟩) h.lt).trans h.c0,(hW.cell (p:=⟨R,1,none⟩) h.lt).trans h.c1⟩)
 go_enter Tryz.func151,Tryz.ntmps151
 go_wp2
 refine region_R (by kernel_rfl) (by kernel_rfl) ?_
 iterate 3 (refine rv ?_;simp only[Pu])
 refine r_call (v:= .bool true) (f:=?qf13) (args:=?qa13) (by kernel_rfl) (fun W hW=>?qh13) (fun W hW=>?qc13) ?qr13
 case qh13=>go_light;go_simp;constructor<;>rfl
 case qc13=>exact (QI W (h.gr hW)).mono (fun e w' h=>⟨h.1,Gr.trans hW h.2⟩)
 simp only[Pu]
 iterate 6 (refine rv ?_;simp only[Pu])
 refine r_val (v:=?qv20) (by kernel_rfl) (fun W hW=>?qh20) ?qr20
 case qh20=>obtain ⟨y0,y1⟩:=HF.out W hW;go_light;go_simp;rfl
 simp only[Pu]
 iterate 5 (refine rv ?_;simp only[Pu])
 refine r_val (v:=?qv26) (by kernel_rfl) (fun W hW=>?qh26) ?qr26
 case qh26=>obtain ⟨y0,y1⟩:=HF.out W hW;go_light;go_simp;rfl
 simp only[Pu]
 iterate 4 (refine rv ?_;simp only[Pu])
 iterate 13 (refine rs ?_;simp only[Pu])
 refine rv ?_;simp only[Pu]
 refine r_nil ?_
 intro w1 hg1
 go_wp2
 go_ret
 exact ⟨rfl,hg1⟩
theorem rng_shut {w:World} {R n:Nat} {s:ByteArray} {q:Rs} (h:Rdr w R s n q) (hs:(s.size:Int)≤4096) {c d:UInt8} {r:List UInt8} (hc:c.toNat=45) (hq:q.rest=c::d::r) (hdd:d.toNat=93) :
  Calls Tryz.prog 151 #[.pointer (some ⟨R,0,none⟩)] w fun e w'=>e= .returned (.bool false)∧Gr w w':=by
 have QI:=fun w (h:Rdr w R s n q)=>is_yes h hs 45 (by decide) (by rw[hq];simp[headIs,hc])
 have hl:=h.len
 have hr:=h.rest
 rw[hq] at hl hr
 simp at hl
 have hd1':(n:Int)+1<(s.size:Int):=by omega
 have hd1:decide ((s.size:Int)≤(n:Int)+1)=false:=decide_eq_false (by omega)
 obtain ⟨hn1,hb1⟩:=drop_byte (s:=s) (n:=n+1) (c:=d) (r:=r) (by rw[←List.drop_drop,hr];rfl)
 have hwr:=wrap_in ((n:Int)+1) (by omega) (by omega)
 clear hl hr hq
 have hd:((d.toNat:Int)==93)=true:=beq_iff_eq.2 (by omega)
 clear hdd
 have HF:Hid (∀W,Gr w W→W.cell? ⟨R,0,none⟩=some (.string s)∧W.cell? ⟨R,1,none⟩=some (.int .i64 n)):=Lib.hid (fun W hW=>⟨(hW.cell (p:=⟨R,0,none⟩) h.lt).trans h.c0,(hW.cell (p:=⟨R,1,none⟩) h.lt).trans h.c1⟩)
 go_enter Tryz.func151,Tryz.ntmps151
 go_wp2
 refine region_R (by kernel_rfl) (by kernel_rfl) ?_
 iterate 3 (refine rv ?_;simp only[Pu])
 refine r_call (v:= .bool true) (f:=?qf35) (args:=?qa35) (by kernel_rfl) (fun W hW=>?qh35) (fun W hW=>?qc35) ?qr35
 case qh35=>go_light;go_simp;constructor<;>rfl
 case qc35=>exact (QI W (h.gr hW)).mono (fun e w' h=>⟨h.1,Gr.trans hW h.2⟩)
 simp only[Pu]
 iterate 6 (refine rv ?_;simp only[Pu])
 refine r_val (v:=?qv42) (by kernel_rfl) (fun W hW=>?qh42) ?qr42
 case qh42=>obtain ⟨y0,y1⟩:=HF.out W hW;go_light;go_simp;rfl
 simp only[Pu]
 iterate 5 (refine rv ?_;simp only[Pu])
 refine r_val (v:=?qv48) (by kernel_rfl) (fun W hW=>?qh48) ?qr48
 case qh48=>obtain ⟨y0,y1⟩:=HF.out W hW;go_light;go_simp;rfl
 simp only[Pu]
 iterate 8 (refine rv ?_;simp only[Pu])
 refine r_val (v:=?qv57) (by kernel_rfl) (fun W hW=>?qh57) ?qr57
 case qh57=>obtain ⟨y0,y1⟩:=HF.out W hW;go_light;go_simp;rfl
 simp only[Pu]
 iterate 4 (refine rv ?_;simp only[Pu])
 refine r_val (v:=?qv62) (by kernel_rfl) (fun W hW=>?qh62) ?qr62
 case qh62=>obtain ⟨y0,y1⟩:=HF.out W hW;go_light;go_simp;rfl
 simp only[Pu]
 iterate 4 (refine rv ?_;simp only[Pu])
 refine r_nil ?_
 intro w1 hg1
 go_wp2
 go_ret
 exact ⟨rfl,hg1⟩
theorem rng_plain {w:World} {R n:Nat} {s:ByteArray} {q:Rs} (h:Rdr w R s n q) (hs:(s.size:Int)≤4096) {c d:UInt8} {r:List UInt8} (hc:c.toNat=45) (hq:q.rest=c::d::r) (hdd:d.toNat≠93) (hdd2:d.toNat≠92) :
  Calls Tryz.prog 151 #[.pointer (some ⟨R,0,none⟩)] w fun e w'=>e= .returned (.bool true)∧Gr w w':=by
 have QI:=fun w (h:Rdr w R s n q)=>is_yes h hs 45 (by decide) (by rw[hq];simp[headIs,hc])
 have hl:=h.len
 have hr:=h.rest
 rw[hq] at hl hr
 simp at hl
 have hd1':(n:Int)+1<(s.size:Int):=by omega
 have hd1:decide ((s.size:Int)≤(n:Int)+1)=false:=decide_eq_false (by omega)
 obtain ⟨hn1,hb1⟩:=drop_byte (s:=s) (n:=n+1) (c:=d) (r:=r) (by rw[←List.drop_drop,hr];rfl)
 have hwr:=wrap_in ((n:Int)+1) (by omega) (by omega)
 clear hl hr hq
 have hd:((d.toNat:Int)==93)=false:=beq_eq_false_iff_ne.2 (by omega)
 have hd2:((d.toNat:Int) != 92)=true:=by simp[bne,beq_eq_false_iff_ne.2 (show (d.toNat:Int)≠92 by omega)]
 clear hdd hdd2
 have HF:Hid (∀W,Gr w W→W.cell? ⟨R,0,none⟩=some (.string s)∧W.cell? ⟨R,1,none⟩=some (.int .i64 n)):=Lib.hid (fun W hW=>⟨(hW.cell (p:=⟨R,0,none⟩) h.lt).trans h.c0,(hW.cell (p:=⟨R,1,none⟩) h.lt).trans h.c1⟩)
 go_enter Tryz.func151,Tryz.ntmps151
 go_wp2
 refine region_R (by kernel_rfl) (by kernel_rfl) ?_
 iterate 3 (refine rv ?_;simp only[Pu])
 refine r_call (v:= .bool true) (f:=?qf70) (args:=?qa70) (by kernel_rfl) (fun W hW=>?qh70) (fun W hW=>?qc70) ?qr70
 case qh70=>go_light;go_simp;constructor<;>rfl
 case qc70=>exact (QI W (h.gr hW)).mono (fun e w' h=>⟨h.1,Gr.trans hW h.2⟩)
 simp only[Pu]
 iterate 6 (refine rv ?_;simp only[Pu])
 refine r_val (v:=?qv77) (by kernel_rfl) (fun W hW=>?qh77) ?qr77
 case qh77=>obtain ⟨y0,y1⟩:=HF.out W hW;go_light;go_simp;rfl
 simp only[Pu]
 iterate 5 (refine rv ?_;simp only[Pu])
 refine r_val (v:=?qv83) (by kernel_rfl) (fun W hW=>?qh83) ?qr83
 case qh83=>obtain ⟨y0,y1⟩:=HF.out W hW;go_light;go_simp;rfl
 simp only[Pu]
 iterate 8 (refine rv ?_;simp only[Pu])
 refine r_val (v:=?qv92) (by kernel_rfl) (fun W hW=>?qh92) ?qr92
 case qh92=>obtain ⟨y0,y1⟩:=HF.out W hW;go_light;go_simp;rfl
 simp only[Pu]
 iterate 4 (refine rv ?_;simp only[Pu])
 refine r_val (v:=?qv97) (by kernel_rfl) (fun W hW=>?qh97) ?qr97
 case qh97=>obtain ⟨y0,y1⟩:=HF.out W hW;go_light;go_simp;rfl
 simp only[Pu]
 iterate 4 (refine rv ?_;simp only[Pu])
 refine r_nil ?_
 intro w1 hg1
 have h1:=h.gr hg1
 have HF1:Hid (∀W,Gr w1 W→W.cell? ⟨R,0,none⟩=some (.string s)∧W.cell? ⟨R,1,none⟩=some (.int .i64 n)):=Lib.hid (fun W hW=>⟨(hW.cell (p:=⟨R,0,none⟩) h1.lt).trans h1.c0,(hW.cell (p:=⟨R,1,none⟩) h1.lt).trans h1.c1⟩)
 clear HF
 have HF:=HF1
 clear HF1
 go_wp2
 refine region_R (by kernel_rfl) (by kernel_rfl) ?_
 iterate 4 (refine rv ?_;simp only[Pu])
 refine r_val (v:=?qv106) (by kernel_rfl) (fun W hW=>?qh106) ?qr106
 case qh106=>obtain ⟨y0,y1⟩:=HF.out W hW;go_light;go_simp;rfl
 simp only[Pu]
 iterate 4 (refine rv ?_;simp only[Pu])
 refine r_val (v:=?qv111) (by kernel_rfl) (fun W hW=>?qh111) ?qr111
 case qh111=>obtain ⟨y0,y1⟩:=HF.out W hW;go_light;go_simp;rfl
 simp only[Pu]
 iterate 4 (refine rv ?_;simp only[Pu])
 iterate 13 (refine rs ?_;simp only[Pu])
 refine rv ?_;simp only[Pu]
 refine r_nil ?_
 intro w2 hg2
 go_wp2
 go_ret
 exact ⟨rfl,(Gr.trans hg1 hg2)⟩
theorem rng_last {w:World} {R n:Nat} {s:ByteArray} {q:Rs} (h:Rdr w R s n q) (hs:(s.size:Int)≤4096) {c d:UInt8} (hc:c.toNat=45) (hq:q.rest=[c,d]) (hdd:d.toNat=92) :
  Calls Tryz.prog 151 #[.pointer (some ⟨R,0,none⟩)] w fun e w'=>e= .returned (.bool true)∧Gr w w':=by
 have QI:=fun w (h:Rdr w R s n q)=>is_yes h hs 45 (by decide) (by rw[hq];simp[headIs,hc])
 have hl:=h.len
 have hr:=h.rest
 rw[hq] at hl hr
 simp at hl
 have hd1':(n:Int)+1<(s.size:Int):=by omega
 have hd1:decide ((s.size:Int)≤(n:Int)+1)=false:=decide_eq_false (by omega)
 obtain ⟨hn1,hb1⟩:=drop_byte (s:=s) (n:=n+1) (c:=d) (r:=[]) (by rw[←List.drop_drop,hr];rfl)
 have hwr:=wrap_in ((n:Int)+1) (by omega) (by omega)
 have hd3:(s.size:Int)≤(n:Int)+2:=by omega
 have hwr2:=wrap_in ((n:Int)+2) (by omega) (by omega)
 clear hl hr hq
 have hd:((d.toNat:Int)==93)=false:=beq_eq_false_iff_ne.2 (by omega)
 have hd2:((d.toNat:Int) != 92)=false:=by rw[hdd];rfl
 clear hdd
 have HF:Hid (∀W,Gr w W→W.cell? ⟨R,0,none⟩=some (.string s)∧W.cell? ⟨R,1,none⟩=some (.int .i64 n)):=Lib.hid (fun W hW=>⟨(hW.cell (p:=⟨R,0,none⟩) h.lt).trans h.c0,(hW.cell (p:=⟨R,1,none⟩) h.lt).trans h.c1⟩)
 go_enter Tryz.func151,Tryz.ntmps151
 go_wp2
 refine region_R (by kernel_rfl) (by kernel_rfl) ?_
 iterate 3 (refine rv ?_;simp only[Pu])
 refine r_call (v:= .bool true) (f:=?qf120) (args:=?qa120) (by kernel_rfl) (fun W hW=>?qh120) (fun W hW=>?qc120) ?qr120
 case qh120=>go_light;go_simp;constructor<;>rfl
 case qc120=>exact (QI W (h.gr hW)).mono (fun e w' h=>⟨h.1,Gr.trans hW h.2⟩)
 simp only[Pu]
 iterate 6 (refine rv ?_;simp only[Pu])
 refine r_val (v:=?qv127) (by kernel_rfl) (fun W hW=>?qh127) ?qr127
 case qh127=>obtain ⟨y0,y1⟩:=HF.out W hW;go_light;go_simp;rfl
 simp only[Pu]
 iterate 5 (refine rv ?_;simp only[Pu])
 refine r_val (v:=?qv133) (by kernel_rfl) (fun W hW=>?qh133) ?qr133
 case qh133=>obtain ⟨y0,y1⟩:=HF.out W hW;go_light;go_simp;rfl
 simp only[Pu]
 iterate 8 (refine rv ?_;simp only[Pu])
 refine r_val (v:=?qv142) (by kernel_rfl) (fun W hW=>?qh142) ?qr142
 case qh142=>obtain ⟨y0,y1⟩:=HF.out W hW;go_light;go_simp;rfl
 simp only[Pu]
 iterate 4 (refine rv ?_;simp only[Pu])
 refine r_val (v:=?qv147) (by kernel_rfl) (fun W hW=>?qh147) ?qr147
 case qh147=>obtain ⟨y0,y1⟩:=HF.out W hW;go_light;go_simp;rfl
 simp only[Pu]
 iterate 4 (refine rv ?_;simp only[Pu])
 refine r_nil ?_
 intro w1 hg1
 have h1:=h.gr hg1
 have HF1:Hid (∀W,Gr w1 W→W.cell? ⟨R,0,none⟩=some (.string s)∧W.cell? ⟨R,1,none⟩=some (.int .i64 n)):=Lib.hid (fun W hW=>⟨(hW.cell (p:=⟨R,0,none⟩) h1.lt).trans h1.c0,(hW.cell (p:=⟨R,1,none⟩) h1.lt).trans h1.c1⟩)
 clear HF
 have HF:=HF1
 clear HF1
 go_wp2
 refine region_R (by kernel_rfl) (by kernel_rfl) ?_
 iterate 4 (refine rv ?_;simp only[Pu])
 refine r_val (v:=?qv156) (by kernel_rfl) (fun W hW=>?qh156) ?qr156
 case qh156=>obtain ⟨y0,y1⟩:=HF.out W hW;go_light;go_simp;rfl
 simp only[Pu]
 iterate 4 (refine rv ?_;simp only[Pu])
 refine r_val (v:=?qv161) (by kernel_rfl) (fun W hW=>?qh161) ?qr161
 case qh161=>obtain ⟨y0,y1⟩:=HF.out W hW;go_light;go_simp;rfl
 simp only[Pu]
 iterate 8 (refine rv ?_;simp only[Pu])
 refine r_val (v:=?qv170) (by kernel_rfl) (fun W hW=>?qh170) ?qr170
 case qh170=>obtain ⟨y0,y1⟩:=HF.out W hW;go_light;go_simp;rfl
 simp only[Pu]
 iterate 5 (refine rv ?_;simp only[Pu])
 refine r_val (v:=?qv176) (by kernel_rfl) (fun W hW=>?qh176) ?qr176
 case qh176=>obtain ⟨y0,y1⟩:=HF.out W hW;go_light;go_simp;rfl
 simp only[Pu]
 iterate 3 (refine rv ?_;simp only[Pu])
 refine r_nil ?_
 intro w2 hg2
 go_wp2
 go_ret
 exact ⟨rfl,(Gr.trans hg1 hg2)⟩
theorem rng_named {w:World} {R n:Nat} {s:ByteArray} {q:Rs} (h:Rdr w R s n q) (hs:(s.size:Int)≤4096) {c d x:UInt8} {r:List UInt8} (hc:c.toNat=45) (hq:q.rest=c::d::x::r) (hdd:d.toNat=92) :
  Calls Tryz.prog 151 #[.pointer (some ⟨R,0,none⟩)] w fun e w'=>e= .returned (.bool (!isNamed x.toNat))∧Gr w w':=by
 have QI:=fun w (h:Rdr w R s n q)=>is_yes h hs 45 (by decide) (by rw[hq];simp[headIs,hc])
 have hl:=h.len
 have hr:=h.rest
 rw[hq] at hl hr
 simp at hl
 have hd1':(n:Int)+1<(s.size:Int):=by omega
 have hd1:decide ((s.size:Int)≤(n:Int)+1)=false:=decide_eq_false (by omega)
 obtain ⟨hn1,hb1⟩:=drop_byte (s:=s) (n:=n+1) (c:=d) (r:=x::r) (by rw[←List.drop_drop,hr];rfl)
 have hwr:=wrap_in ((n:Int)+1) (by omega) (by omega)
 have hd3:¬(s.size:Int)≤(n:Int)+2:=by omega
 have hd4:(n:Int)+2<(s.size:Int):=by omega
 obtain ⟨hn2,hb2⟩:=drop_byte (s:=s) (n:=n+2) (c:=x) (r:=r) (by rw[←List.drop_drop,hr];rfl)
 have hwr2:=wrap_in ((n:Int)+2) (by omega) (by omega)
 clear hl hr hq
 have hd:((d.toNat:Int)==93)=false:=beq_eq_false_iff_ne.2 (by omega)
 have hd2:((d.toNat:Int) != 92)=false:=by rw[hdd];rfl
 clear hdd
 have QN:=fun w=>named_any x.toNat w x.toNat_lt
 obtain ⟨hz,hsz⟩:=zero_of_info info_set
 have HF:Hid (∀W,Gr w W→W.cell? ⟨R,0,none⟩=some (.string s)∧W.cell? ⟨R,1,none⟩=some (.int .i64 n)):=Lib.hid (fun W hW=>⟨(hW.cell (p:=⟨R,0,none⟩) h.lt).trans h.c0,(hW.cell (p:=⟨R,1,none⟩) h.lt).trans h.c1⟩)
 go_enter Tryz.func151,Tryz.ntmps151
 go_wp2
 refine region_R (by kernel_rfl) (by kernel_rfl) ?_
 iterate 3 (refine rv ?_;simp only[Pu])
 refine r_call (v:= .bool true) (f:=?qf183) (args:=?qa183) (by kernel_rfl) (fun W hW=>?qh183) (fun W hW=>?qc183) ?qr183
 case qh183=>go_light;go_simp;constructor<;>rfl
 case qc183=>exact (QI W (h.gr hW)).mono (fun e w' h=>⟨h.1,Gr.trans hW h.2⟩)
 simp only[Pu]
 iterate 6 (refine rv ?_;simp only[Pu])
 refine r_val (v:=?qv190) (by kernel_rfl) (fun W hW=>?qh190) ?qr190
 case qh190=>obtain ⟨y0,y1⟩:=HF.out W hW;go_light;go_simp;rfl
 simp only[Pu]
 iterate 5 (refine rv ?_;simp only[Pu])
 refine r_val (v:=?qv196) (by kernel_rfl) (fun W hW=>?qh196) ?qr196
 case qh196=>obtain ⟨y0,y1⟩:=HF.out W hW;go_light;go_simp;rfl
 simp only[Pu]
 iterate 8 (refine rv ?_;simp only[Pu])
 refine r_val (v:=?qv205) (by kernel_rfl) (fun W hW=>?qh205) ?qr205
 case qh205=>obtain ⟨y0,y1⟩:=HF.out W hW;go_light;go_simp;rfl
 simp only[Pu]
 iterate 4 (refine rv ?_;simp only[Pu])
 refine r_val (v:=?qv210) (by kernel_rfl) (fun W hW=>?qh210) ?qr210
 case qh210=>obtain ⟨y0,y1⟩:=HF.out W hW;go_light;go_simp;rfl
 simp only[Pu]
 iterate 4 (refine rv ?_;simp only[Pu])
 refine r_nil ?_
 intro w1 hg1
 have h1:=h.gr hg1
 have HF1:Hid (∀W,Gr w1 W→W.cell? ⟨R,0,none⟩=some (.string s)∧W.cell? ⟨R,1,none⟩=some (.int .i64 n)):=Lib.hid (fun W hW=>⟨(hW.cell (p:=⟨R,0,none⟩) h1.lt).trans h1.c0,(hW.cell (p:=⟨R,1,none⟩) h1.lt).trans h1.c1⟩)
 clear HF
 have HF:=HF1
 clear HF1
 go_wp2
 refine region_R (by kernel_rfl) (by kernel_rfl) ?_
 iterate 4 (refine rv ?_;simp only[Pu])
 refine r_val (v:=?qv219) (by kernel_rfl) (fun W hW=>?qh219) ?qr219
 case qh219=>obtain ⟨y0,y1⟩:=HF.out W hW;go_light;go_simp;rfl
 simp only[Pu]
 iterate 4 (refine rv ?_;simp only[Pu])
 refine r_val (v:=?qv224) (by kernel_rfl) (fun W hW=>?qh224) ?qr224
 case qh224=>obtain ⟨y0,y1⟩:=HF.out W hW;go_light;go_simp;rfl
 simp only[Pu]
 iterate 8 (refine rv ?_;simp only[Pu])
 refine r_val (v:=?qv233) (by kernel_rfl) (fun W hW=>?qh233) ?qr233
 case qh233=>obtain ⟨y0,y1⟩:=HF.out W hW;go_light;go_simp;rfl
 simp only[Pu]
 iterate 5 (refine rv ?_;simp only[Pu])
 refine r_val (v:=?qv239) (by kernel_rfl) (fun W hW=>?qh239) ?qr239
 case qh239=>obtain ⟨y0,y1⟩:=HF.out W hW;go_light;go_simp;rfl
 simp only[Pu]
 iterate 3 (refine rv ?_;simp only[Pu])
 refine r_nil ?_
 intro w2 hg2
 have h2:=h1.gr hg2
 have HF2:Hid (∀W,Gr w2 W→W.cell? ⟨R,0,none⟩=some (.string s)∧W.cell? ⟨R,1,none⟩=some (.int .i64 n)):=Lib.hid (fun W hW=>⟨(hW.cell (p:=⟨R,0,none⟩) h2.lt).trans h2.c0,(hW.cell (p:=⟨R,1,none⟩) h2.lt).trans h2.c1⟩)
 clear HF
 have HF:=HF2
 clear HF2
 go_wp2
 go_upto_region 5 with (fail)
 go_cut [4] from 68 to 84 (fun p wx=>p= .bool (isNamed x.toNat)∧Gr w2 wx)
 case first=>
  have hS0:Gr w2 w2.drew:=Gr.drew (Gr.refl _)
  obtain ⟨V,hV⟩:∃V,V=w2.drew:=⟨_,rfl⟩
  refine wp_region_Z 18 (fun W=>Gr w2 W) (by kernel_rfl) ?_
  rw[←hV] at hS0 ⊢
  clear hV
  refine zt 0 rfl hS0 (fun W hS=>by go_light;go_simp;rfl) ?_
  refine zt 1 rfl hS0 (fun W hS=>by go_light;go_simp;rfl) ?_
  refine zt 2 rfl hS0 (fun W hS=>by go_light;go_simp;rfl) ?_
  refine zt 3 rfl hS0 (fun W hS=>by go_light;go_simp;rfl) ?_
  refine zt 4 rfl hS0 (fun W hS=>by obtain ⟨y0,y1⟩:=HF.out W hS;go_light;go_simp;rfl) ?_
  refine zt 5 rfl hS0 (fun W hS=>by go_light;go_simp;rfl) ?_
  refine zt 6 rfl hS0 (fun W hS=>by go_light;go_simp;rfl) ?_
  refine zt 7 rfl hS0 (fun W hS=>by go_light;go_simp;rfl) ?_
  refine zt 8 rfl hS0 (fun W hS=>by go_light;go_simp;rfl) ?_
  refine zt 9 rfl hS0 (fun W hS=>by obtain ⟨y0,y1⟩:=HF.out W hS;go_light;go_simp;rfl) ?_
  refine zt 10 rfl hS0 (fun W hS=>by go_light;go_simp;rfl) ?_
  refine wpAnyZ_take (i:=11) (v:= .int .u8 (x.toNat:Int)) rfl (by kernel_rfl) (fun _ _ _ h=>h) (by rfl) (fun W hS=>?h12) hS0 ?r12
  case h12=>
   go_light
   have z0:(0:Int)≤(n:Int)+2:=by omega
   have z1:((n:Int)+2).toNat=n+2:=by omega
   go_simp
  simp only[Act.put,List.setIfInBounds_toArray,List.set_cons_zero,List.set_cons_succ]
  refine wpAnyZ_ready (rs:=[12,16]) (by kernel_rfl) (by simp) ?_
  refine AllReadyZ.cons rfl (by rfl) (fun K hK=>?_) (AllReadyZ.cons rfl (by rfl) (fun K hK=>?_) AllReadyZ.nil)
  ·
   go_simp
   refine (QN _).mono ?_;rintro e w901 ⟨rfl,hg903⟩
   have g902:=Gr.trans hS0 hg903
   clear hg903
   go_wp2_with fail
   refine hK.out _ _ (fun hnz=>?s13) (fun _=>?r13)
   case s13=>exact g902
   clear hK K
   try simp only[Pu]
   refine zt 13 rfl g902 (fun W hS=>by go_light;go_simp;rfl) ?_
   refine zt 14 rfl g902 (fun W hS=>by go_light;go_simp;rfl) ?_
   refine zt 15 rfl g902 (fun W hS=>by go_light;go_simp;rfl) ?_
   refine wpAnyZ_ready (rs:=[16]) (by kernel_rfl) (by simp) ?_
   refine AllReadyZ.cons rfl (by rfl) (fun K hK=>?_) AllReadyZ.nil
   ·
    have g904:=Gr.alloc g902 (.cells (bsA noB) 179)
    have r905:=SetAt.new w901 noB
    go_wp2_with fail
    refine hK.out _ _ (fun hnz=>?s17) (fun _=>?r17)
    case s17=>exact g904
    clear hK K
    try simp only[Pu]
    obtain ⟨V906,hV906⟩:∃V906,V906=w901.alloc (.cells (bsA noB) 179):=⟨_,rfl⟩
    rw[←hV906] at g904 r905 ⊢
    clear hV906
    refine wpAnyZ_ready (rs:=[17]) (by kernel_rfl) (by simp) ?_
    refine AllReadyZ.cons rfl (by rfl) (fun K hK=>?_) AllReadyZ.nil
    ·
     have g907:=Gr.setRow g904 g902.size (bsA (nmB x.toNat))
     refine wp_store_row 179 (.tmp 3) (.tmp 82) rfl (w901.heap.size) (bsA (nmB x.toNat)) rfl rfl _ _ r905 (size_bsA _) (by simp only[bsA_size]) (bsA_one _) ?_
     refine hK.out _ _ (fun hnz=>?s18) (fun _=>?r18)
     case s18=>exact g907
     clear hK K
     try simp only[Pu]
     refine wpAnyZ_ready (rs:=[18]) (by kernel_rfl) (by simp) ?_
     refine AllReadyZ.cons rfl (by rfl) (fun K hK=>?_) AllReadyZ.nil
     ·
      go_simp
      refine hK.out _ _ (fun hnz=>absurd rfl hnz) (fun _=>?_)
      clear hK K
      try simp only[Pu]
      refine wpAnyZ_done (by kernel_rfl) ?_ _
      go_wp2_with fail
      go_meet
      exact ⟨rfl,g907⟩
  ·
   have g908:=Gr.alloc hS0 (.cells (bsA noB) 179)
   have r909:=SetAt.new V noB
   go_wp2_with fail
   refine hK.out _ _ (fun hnz=>?s19) (fun _=>?r19)
   case s19=>exact g908
   clear hK K
   try simp only[Pu]
   obtain ⟨V910,hV910⟩:∃V910,V910=V.alloc (.cells (bsA noB) 179):=⟨_,rfl⟩
   rw[←hV910] at g908 r909 ⊢
   clear hV910
   refine wpAnyZ_ready (rs:=[12]) (by kernel_rfl) (by simp) ?_
   refine AllReadyZ.cons rfl (by rfl) (fun K hK=>?_) AllReadyZ.nil
   ·
    go_simp
    refine (QN _).mono ?_;rintro e w911 ⟨rfl,hg913⟩
    have g912:=Gr.trans g908 hg913
    have r914:=r909.gr hg913
    clear hg913
    go_wp2_with fail
    refine hK.out _ _ (fun hnz=>?s20) (fun _=>?r20)
    case s20=>exact g912
    clear hK K
    try simp only[Pu]
    refine zt 13 rfl g912 (fun W hS=>by go_light;go_simp;rfl) ?_
    refine zt 14 rfl g912 (fun W hS=>by go_light;go_simp;rfl) ?_
    refine zt 15 rfl g912 (fun W hS=>by go_light;go_simp;rfl) ?_
    refine wpAnyZ_ready (rs:=[17]) (by kernel_rfl) (by simp) ?_
    refine AllReadyZ.cons rfl (by rfl) (fun K hK=>?_) AllReadyZ.nil
    ·
     have g915:=Gr.setRow g912 hS0.size (bsA (nmB x.toNat))
     refine wp_store_row 179 (.tmp 3) (.tmp 82) rfl (V.heap.size) (bsA (nmB x.toNat)) rfl rfl _ _ r914 (size_bsA _) (by simp only[bsA_size]) (bsA_one _) ?_
     refine hK.out _ _ (fun hnz=>?s24) (fun _=>?r24)
     case s24=>exact g915
     clear hK K
     try simp only[Pu]
     refine wpAnyZ_ready (rs:=[18]) (by kernel_rfl) (by simp) ?_
     refine AllReadyZ.cons rfl (by rfl) (fun K hK=>?_) AllReadyZ.nil
     ·
      go_simp
      refine hK.out _ _ (fun hnz=>absurd rfl hnz) (fun _=>?_)
      clear hK K
      try simp only[Pu]
      refine wpAnyZ_done (by kernel_rfl) ?_ _
      go_wp2_with fail
      go_meet
      exact ⟨rfl,g915⟩
 case rest=>
 obtain ⟨rfl,hg3⟩:=hcut
 go_wp2
 go_ret
 exact ⟨rfl,Gr.trans (Gr.trans hg1 hg2) hg3⟩
theorem ranges_any {w:World} {R n:Nat} {s:ByteArray} {q:Rs} (h:Rdr w R s n q) (hs:(s.size:Int)≤4096) :
  Calls Tryz.prog 151 #[.pointer (some ⟨R,0,none⟩)] w fun e w'=>e= .returned (.bool (rangesS q.rest))∧Gr w w':=by
 cases hh:headIs 45 q.rest
 ·
  have e:rangesS q.rest=false:=by
   match q.rest,hh with
   | [],_=>rfl
   | [_],_=>rfl
   | c::d::r,hh=>simp only[headIs] at hh;simp[rangesS,hh]
  rw[e]
  exact rng_no h hs hh
 ·
  obtain ⟨c,r,hq,hc⟩:=headIs_cons hh
  have hcb:(c.toNat==45)=true:=by rw[hc];rfl
  match r,hq with
  | [],hq=>rw[hq];exact rng_end h hs hc hq
  | d::r,hq=>
   by_cases h93:d.toNat=93
   ·
    rw[hq,show rangesS (c::d::r)=false by simp[rangesS,hcb,h93]]
    exact rng_shut h hs hc hq h93
   ·
    have q93:(d.toNat==93)=false:=beq_eq_false_iff_ne.2 h93
    by_cases h92:d.toNat=92
    ·
     have q92:(d.toNat==92)=true:=by rw[h92];rfl
     match r,hq with
     | [],hq=>rw[hq,show rangesS [c,d]=true by simp[rangesS,hcb,q93]];exact rng_last h hs hc hq h92
     | x::r,hq=>rw[hq,show rangesS (c::d::x::r)= !isNamed x.toNat by simp[rangesS,hcb,q93,q92]];exact rng_named h hs hc hq h92
    ·
     have q92:(d.toNat==92)=false:=beq_eq_false_iff_ne.2 h92
     rw[hq,show rangesS (c::d::r)=true by simp[rangesS,hcb,q93,q92]]
     exact rng_plain h hs hc hq h93 h92
end Go.Proofs.YtnphdacibageiaaGreat
