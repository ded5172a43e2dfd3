import Derived.Test.YtnphdacibageiaaGreatRunSrFitB
set_option linter.all false
set_option maxRecDepth 1000000
set_option maxHeartbeats 12800000
namespace Go.Proofs.YtnphdacibageiaaGreat
open Go.RowKit
theorem info_ent:(Tryz.prog.info? 135).map (fun i=>(i.zero,i.size,i.bytes))=some (some (.agg #[.string ⟨#[]⟩, .int .i64 0, .int .i64 0, .slice none 0 0, .int .i64 0, .bool false, .int .i64 0]),7,80):=by kernel_rfl
def BAt (W:World) (B:Nat) (x:Sq):Prop:=W.cell? ⟨B,0,none⟩=some (.string x.s.name)∧W.cell? ⟨B,1,none⟩=some (.int .i64 x.s.start)∧W.cell? ⟨B,2,none⟩=some (.int .i64 x.s.step)∧W.cell? ⟨B,3,none⟩=some (.slice x.A x.s.vals.length x.c)∧W.cell? ⟨B,4,none⟩=some (.int .i64 x.s.cons)∧B<W.heap.size
theorem BAt.gr {w w':World} {B:Nat} {x:Sq} (h:BAt w B x) (g:Gr w w'):BAt w' B x:=by
 obtain ⟨b0,b1,b2,b3,b4,b5⟩:=h
 exact ⟨(g.cell (p:=⟨B,0,none⟩) b5).trans b0,(g.cell (p:=⟨B,1,none⟩) b5).trans b1,(g.cell (p:=⟨B,2,none⟩) b5).trans b2,(g.cell (p:=⟨B,3,none⟩) b5).trans b3,(g.cell (p:=⟨B,4,none⟩) b5).trans b4,Nat.lt_of_lt_of_le b5 g.size⟩
theorem BAt.grown {w w':World} {B:Nat} {x:Sq} {row:Option Nat} (h:BAt w B x) (g:w.grownBy w' row) (hr:some B≠row):BAt w' B x:=by
 obtain ⟨b0,b1,b2,b3,b4,b5⟩:=h
 exact ⟨g.cell b0 hr,g.cell b1 hr,g.cell b2 hr,g.cell b3 hr,g.cell b4 hr,Nat.lt_of_lt_of_le b5 g.size⟩
theorem FAt.grown {w w':World} {B:Nat} {r:Fr} {row:Option Nat} (h:FAt w B r) (g:w.grownBy w' row) (hr:some B≠row):FAt w' B r:=by
 obtain ⟨b0,b1,b2,b3,b5⟩:=h
 exact ⟨g.cell b0 hr,g.cell b1 hr,g.cell b2 hr,g.cell b3 hr,Nat.lt_of_lt_of_le b5 g.size⟩
def SrtS (R B:Nat) (r:Fr) (x:Sq) (W:World):Prop:=FAt W R r∧BAt W B x
theorem SrtS.gr {R B:Nat} {r:Fr} {x:Sq} {w w':World} (h:SrtS R B r x w) (g:Gr w w'):SrtS R B r x w':=⟨h.1.gr g,h.2.gr g⟩
theorem SrtS.grown {R B:Nat} {r:Fr} {x:Sq} {w w':World} {row:Option Nat} (h:SrtS R B r x w) (g:w.grownBy w' row) (hr:∀j,row=some j→R≠j∧B≠j):SrtS R B r x w':=
 ⟨h.1.grown g (fun e=>(hr R e.symm).1 rfl),h.2.grown g (fun e=>(hr B e.symm).2 rfl)⟩
theorem Rd.en {w:World} {A:Option Addr} {L:List En} (h:Rd w 7 A L.length (L.flatMap enC)) {k:Nat} (hk:k<L.length) :
  ∃ad:Addr,A=some ad∧ad.block<w.heap.size∧∀e,L[k]=e→w.cell? (ad.add (k*7))=some (.string e.1.s.name)∧w.cell? ⟨(ad.add (k*7)).block,(ad.add (k*7)).off+1,none⟩=some (.int .i64 e.1.s.start)∧w.cell? ⟨(ad.add (k*7)).block,(ad.add (k*7)).off+2,none⟩=some (.int .i64 e.1.s.step)∧w.cell? ⟨(ad.add (k*7)).block,(ad.add (k*7)).off+3,none⟩=some (.slice e.1.A e.1.s.vals.length e.1.c)∧w.cell? ⟨(ad.add (k*7)).block,(ad.add (k*7)).off+4,none⟩=some (.int .i64 e.1.s.cons)∧w.cell? ⟨(ad.add (k*7)).block,(ad.add (k*7)).off+5,none⟩=some (.bool e.2.ok)∧w.cell? ⟨(ad.add (k*7)).block,(ad.add (k*7)).off+6,none⟩=some (.int .i64 e.2.n):=by
 obtain ⟨ad,e,hb,hc⟩:=h.2 (by omega)
 refine ⟨ad,e,hb,fun x hx=>?_⟩
 have hf:=fun j (hj:j<7)=>flat_at enC 7 enC_len (by decide) L k hk j hj
 rw[hx] at hf
 exact ⟨hc _ _ (hf 0 (by decide)),(congrArg w.cell? (add_next ad (k*7) 0)).symm.trans (hc _ _ (hf 1 (by decide))),(congrArg w.cell? (add_next ad (k*7) 1)).symm.trans (hc _ _ (hf 2 (by decide))),(congrArg w.cell? (add_next ad (k*7) 2)).symm.trans (hc _ _ (hf 3 (by decide))),(congrArg w.cell? (add_next ad (k*7) 3)).symm.trans (hc _ _ (hf 4 (by decide))),(congrArg w.cell? (add_next ad (k*7) 4)).symm.trans (hc _ _ (hf 5 (by decide))),(congrArg w.cell? (add_next ad (k*7) 5)).symm.trans (hc _ _ (hf 6 (by decide)))⟩
def enF (r:Fr) (x:Sq):En:=(x,ofR r.by_ x.s.vals)
theorem sort_en (r:Fr) (L:List Sq):(sortR (fun a b=>ltV r.least a.2 b.2) (L.map (enF r))).map Prod.fst=sortR (fun a b=>ltV r.least (ofR r.by_ a.s.vals) (ofR r.by_ b.s.vals)) L:=by
 rw[←sortR_map (enF r) (fun (a b:En)=>ltV r.least a.2 b.2) L,List.map_map]
 show (List.map id _)=_
 rw[List.map_id]
 rfl
theorem sorted_any (r:Fr) (HO:OfOk r) (A:Option Addr) (c:Nat) (L:List Sq) (w:World) (h20:L.length≤20) (hle:∀x∈L,x.s.vals.length≤1000000) (hr:Rl w A L) (hv:Lie w L) :
  Calls Tryz.prog 55 #[aggFr r, .slice A L.length c] w (RetL (sortR (fun a b=>ltV r.least (ofR r.by_ a.s.vals) (ofR r.by_ b.s.vals)) L) w):=by
 have HOO:=Lib.hid HO
 clear HO
 obtain ⟨i0,hi0,hz0,hz1,hz2⟩:=info_parts info_ser
 obtain ⟨j0,hj0,hy0,hy1,hy2⟩:=info_parts info_ent
 have h20':(L.length:Int)≤20:=by omega
 have HLE:=Lib.hid hle
 clear hle
 unfold aggFr
 go_enter Tryz.func55,Tryz.ntmps55
 go_wp2
 go_loopw [5,13] (fun v i wr=>∃(k:Nat) (M:List En),k≤L.length∧i= .int .i64 k∧Gr w wr∧Gr (w.alloc (.cells #[.string r.nm, .int .i64 r.kind, .int .i64 r.by_, .bool r.least] 46)) wr∧FAt wr w.heap.size r∧wr.ownsRow (w.heap.size+1) 135 7 v k (M.flatMap enC)∧M.length=k∧Hid (M=(L.take k).map (enF r))) (fun _ i _=>L.length-(intOf i).toNat)
 case atStart=>
  refine ⟨0,[],Nat.zero_le _,rfl,Gr.alloc (Gr.refl _) _,Gr.refl _,?_,World.ownsRow_nil _ _ _ _,rfl,Lib.hid rfl⟩
  refine ⟨?_,?_,?_,?_,?_⟩
  all_goals first|(go_simp;done)|(simp;done)
 case round=>
  obtain ⟨k,M,hk,rfl,hgr,hgW,hFA,hown,hMl,HM⟩:=hrel
  by_cases hlt:k<L.length
  ·
   obtain ⟨x,hx⟩:∃x,L[k]=x:=⟨_,rfl⟩
   obtain ⟨ad,rfl,hb,hx0,hx1,hx2,hx3,hx4⟩:=(hr.gr hgr).at hlt
   have hvx:=hv _ (List.getElem_mem hlt)
   have hlx:=HLE.out _ (List.getElem_mem hlt)
   rw[hx] at hx0 hx1 hx2 hx3 hx4 hvx hlx
   have HM2:Hid (M++[enF r x]=(L.take (k+1)).map (enF r)):=Lib.hid (by rw[List.take_succ_eq_append_getElem hlt,List.map_append,HM.out,hx];rfl)
   have Q:=fun w hr=>HOO.out x.s x.A x.c w hlx hr
   unfold aggFr aggSr at Q
   have hvlr:=fun j hj=>And.intro (hown.lt j hj).1 (hown.lt j hj).2
   clear hx HM hlx
   go_wp2
   have hS0:SrtS w.heap.size wr.heap.size r x (wr.alloc (.cells #[.string x.s.name, .int .i64 x.s.start, .int .i64 x.s.step, .slice x.A x.s.vals.length x.c, .int .i64 x.s.cons] 34)).drew:=⟨hFA.gr (Gr.drew (Gr.alloc (Gr.refl _) _)),by
    refine ⟨?_,?_,?_,?_,?_,?_⟩
    all_goals first|(go_simp;done)|(simp;done)⟩
   have hown0:=(hown.alloc (.cells #[.string x.s.name, .int .i64 x.s.start, .int .i64 x.s.step, .slice x.A x.s.vals.length x.c, .int .i64 x.s.cons] 34)).drew
   have gW0:Gr (w.alloc (.cells #[.string r.nm, .int .i64 r.kind, .int .i64 r.by_, .bool r.least] 46)) (wr.alloc (.cells #[.string x.s.name, .int .i64 x.s.start, .int .i64 x.s.step, .slice x.A x.s.vals.length x.c, .int .i64 x.s.cons] 34)).drew:=Gr.drew (Gr.alloc hgW _)
   have gV0:Gr w (wr.alloc (.cells #[.string x.s.name, .int .i64 x.s.start, .int .i64 x.s.step, .slice x.A x.s.vals.length x.c, .int .i64 x.s.cons] 34)).drew:=Gr.drew (Gr.alloc hgr _)
   obtain ⟨V,hV⟩:∃V,V=(wr.alloc (.cells #[.string x.s.name, .int .i64 x.s.start, .int .i64 x.s.step, .slice x.A x.s.vals.length x.c, .int .i64 x.s.cons] 34)).drew:=⟨_,rfl⟩
   refine wp_region_Z 8 (SrtS w.heap.size wr.heap.size r x) (by kernel_rfl) ?_
   rw[←hV] at hS0 hown0 gV0 gW0 ⊢
   clear hV hgW hx0 hx1 hx2 hx3 hx4 hFA hown
   refine zt 0 rfl hS0 (fun W hS=>by go_simp;rfl) ?_
   refine zt 1 rfl hS0 (fun W hS=>by obtain ⟨⟨r0,r1,r2,r3,r4⟩,b0,b1,b2,b3,b4,b5⟩:=hS;go_simp;rfl) ?_
   refine zt 2 rfl hS0 (fun W hS=>by obtain ⟨⟨r0,r1,r2,r3,r4⟩,b0,b1,b2,b3,b4,b5⟩:=hS;go_simp;rfl) ?_
   refine zt 3 rfl hS0 (fun W hS=>by obtain ⟨⟨r0,r1,r2,r3,r4⟩,b0,b1,b2,b3,b4,b5⟩:=hS;go_simp;rfl) ?_
   refine zs 4 rfl (fun K hK=>?_)
   go_simp
   refine (Q _ (hvx.gr gV0)).mono ?_;rintro e w5 ⟨rfl,hg5⟩
   have gV5:=Gr.trans gV0 hg5
   have gW5:=Gr.trans gW0 hg5
   have hS5:=hS0.gr hg5
   have hown5:=own_gr hown0 hg5
   go_wp2_with fail
   refine hK.out _ _ (fun hnz=>?s5) (fun _=>?r5)
   case s5=>exact hS5
   clear hK K
   try simp only[Pu]
   refine zt 5 rfl hS5 (fun W hS=>by go_simp;rfl) ?_
   refine zs 6 rfl (fun K hK=>?_)
   have hrx:=Rd.new (W:=w5) rfl 135 (n:=1) (size:=7) (enC (enF r x)) rfl
   have hS6:=hS5.gr (Gr.alloc (Gr.refl _) (.cells (enC (enF r x)).toArray 135))
   have hown6:=hown5.alloc (.cells (enC (enF r x)).toArray 135)
   have gV6:=Gr.alloc gV5 (.cells (enC (enF r x)).toArray 135)
   have z5:w.heap.size+1≤w5.heap.size:=by have:=hS5.1.2.2.2.2;omega
   have hvl:=hown5.lt
   have zB:wr.heap.size<w5.heap.size:=hS5.2.2.2.2.2.2
   go_simp
   refine hK.out _ _ (fun hnz=>?s7) (fun _=>?r7)
   case s7=>exact hS6
   clear hK K
   try simp only[Pu]
   refine zs 7 rfl (fun K hK=>?_)
   refine wp_append_rd (.tmp 17) (.tmp 23) 133 rfl (w.heap.size+1) 135 j0 _ 7 80 Tryz.underlying133 hj0 hy0 hy1 hy2 rfl (by decide) _ k _ rfl hown6 ⟨w5.heap.size,0,none⟩ 1 _ (enC (enF r x)) rfl hrx (by decide) (enC_one _) (by unfold maxLen;omega) (by omega) (by simp;omega) ?_
   intro v' w9 hown9 hgr9 _
   have hg9:Gr w w9:=Gr.grown gV6 hgr9 (fun j hj=>by have:=(hvl j hj).1;omega)
   have hW9:Gr (w.alloc (.cells #[.string r.nm, .int .i64 r.kind, .int .i64 r.by_, .bool r.least] 46)) w9:=Gr.grown (Gr.alloc gW5 _) hgr9 (fun j hj=>by have:=(hvl j hj).1;simp;omega)
   have hS9:SrtS w.heap.size wr.heap.size r x w9:=hS6.grown hgr9 (fun j hj=>by have:=(hvlr j hj);omega)
   clear hgr9 hS6 hown6 gV6 hvl hrx
   refine hK.out _ _ (fun hnz=>?s8) (fun _=>?r8)
   case s8=>exact hS9
   clear hK K
   try simp only[Pu]
   refine zs 8 rfl (fun K hK=>?_)
   go_simp
   refine hK.out _ _ (fun hnz=>?s9) (fun _=>?r9)
   case s9=>exact hS9
   clear hK K
   try simp only[Pu]
   refine wpAnyZ_done (by kernel_rfl) ?_ _
   have hown10:w9.ownsRow (w.heap.size+1) 135 7 v' (k+1) ((M++[enF r x]).flatMap enC):=by rw[List.flatMap_append];simpa using hown9
   have hFA9:=hS9.1
   clear hS9 hown9 hS0 hown0 hvlr
   go_wp2
   go_roundw
   case rel=>exact ⟨k+1,M++[enF r x],by omega,by go_num,hg9,hW9,hFA9,hown10,by simp[hMl],HM2⟩
   case measure=>simp[intOf];omega
  ·
   have hkk:k=L.length:=by omega
   subst hkk
   obtain ⟨A',c',hvv⟩:=own_form hown
   subst hvv
   have HM2:Hid (M=L.map (enF r)):=Lib.hid (by rw[HM.out,List.take_length])
   have hsz:=hgr.size
   have hown':wr.ownsRow (w.heap.size+1) 135 7 (.slice A' M.length c') M.length (M.flatMap enC):=by rw[hMl];exact hown
   have QS:=Lib.hid (sorte_any w.heap.size r.least (w.heap.size+1) c' A' M (w.alloc (.cells #[.string r.nm, .int .i64 r.kind, .int .i64 r.by_, .bool r.least] 46)) wr (by go_simp) (by simp) (by omega) hown' hgW (by simp))
   have QS2:=QS.out
   rw[show M.length=L.length from hMl] at QS2
   have HE:Hid ((sortR (fun a b=>ltV r.least a.2 b.2) M).map Prod.fst=sortR (fun a b=>ltV r.least (ofR r.by_ a.s.vals) (ofR r.by_ b.s.vals)) L):=Lib.hid (by rw[HM2.out];exact sort_en r L)
   obtain ⟨E,hE⟩:∃E,sortR (fun a b=>ltV r.least a.2 b.2) M=E:=⟨_,rfl⟩
   have hEl:E.length=L.length:=by rw[←hE,sortR_len,hMl]
   rw[hE] at QS2 HE
   have QS3:=Lib.hid QS2
   clear QS QS2 hE HM HM2 hown hown' hMl hgW
   go_wp2_with fail
   refine QS3.out.mono ?_;rintro e w2 ⟨rfl,hg2,hrd⟩
   have gw2:=Gr.trans (Gr.alloc (Gr.refl w) _) hg2
   rw[show L.length=E.length from hEl.symm] at hrd
   clear QS3 hg2 hFA hgr hsz
   go_wp2
   go_loopw [8,31] (fun v i wr=>∃(k:Nat) (N:List Sq),k≤L.length∧i= .int .i64 k∧Gr w wr∧Gr w2 wr∧wr.ownsRow w2.heap.size 34 5 v k (scells N)∧N.length=k∧Hid (N=(E.take k).map Prod.fst)) (fun _ i _=>L.length-(intOf i).toNat)
   case atStart=>exact ⟨0,[],Nat.zero_le _,rfl,gw2,Gr.refl _,World.ownsRow_nil _ _ _ _,rfl,Lib.hid rfl⟩
   case round=>
    obtain ⟨k,N,hk,rfl,hgr,hg2,hown,hNl,HN⟩:=hrel
    by_cases hlt:k<L.length
    ·
     have hlt':k<E.length:=by omega
     obtain ⟨ad,rfl,hb,hq⟩:=(hrd.gr hg2).en hlt'
     obtain ⟨e,he⟩:∃e,E[k]=e:=⟨_,rfl⟩
     obtain ⟨hx0,hx1,hx2,hx3,hx4,hx5,hx6⟩:=hq e he
     have HN2:Hid (N++[e.1]=(E.take (k+1)).map Prod.fst):=Lib.hid (by rw[List.take_succ_eq_append_getElem hlt',List.map_append,HN.out,he];rfl)
     have hrx:=Rl.new (W:=wr.alloc (.cells (enC e).toArray 135)) (B:=wr.heap.size+1) (by simp) 34 [e.1]
     have hv0:=(hown.alloc (.cells (enC e).toArray 135)).alloc (.cells (scells [e.1]).toArray 34)
     have hvl:=hown.lt
     have z5:=hgr.size
     have z6:=hg2.size
     clear he HN hown hq hb
     go_wp2_with
      (
       at_builtin
       go_loud (
       refine wpList_append_rd rfl (.tmp 35) (.tmp 38) 22 rfl w2.heap.size 34 i0 _ 5 64 Tryz.underlying22 hi0 hz0 hz1 hz2 rfl (by decide) _ k _ rfl hv0 (some ⟨wr.heap.size+1,0,none⟩) 1 _ (scells [e.1]) rfl hrx (scells_one _) (by unfold maxLen;omega) (by omega) (by simp;omega) ?_
       intro v' w7 hown7 hgr7 hat7))
     have hg7:Gr w w7:=Gr.grown (Gr.alloc (Gr.alloc hgr _) _) hgr7 (fun j hj=>by have:=(hvl j hj).1;have:=gw2.size;omega)
     have hg27:Gr w2 w7:=Gr.grown (Gr.alloc (Gr.alloc hg2 _) _) hgr7 (fun j hj=>(hvl j hj).1)
     have hown8:w7.ownsRow w2.heap.size 34 5 v' (k+1) (scells (N++[e.1])):=by rw[scells_append];exact hown7
     clear hv0 hvl hgr7 hat7 hrx hown7 hx0 hx1 hx2 hx3 hx4 hx5 hx6
     go_roundw
     case rel=>exact ⟨k+1,N++[e.1],by omega,by go_num,hg7,hg27,hown8,by simp[hNl],HN2⟩
     case measure=>simp[intOf];omega
    ·
     have hkk:k=L.length:=by omega
     subst hkk
     obtain ⟨A2,c2,hvv⟩:=own_form hown
     subst hvv
     have hcap:=own_cap hown
     have HM2:Hid (N=sortR (fun a b=>ltV r.least (ofR r.by_ a.s.vals) (ofR r.by_ b.s.vals)) L):=Lib.hid (by rw[HN.out,←hEl,List.take_length,HE.out])
     have hRl:Rl wr A2 N:=by have h:=Rd.own hown;unfold Rl;rw[hNl];exact h
     clear HN hown HE
     go_wp2
     go_ret
     exact ⟨A2,c2,ret_slice (by rw[←HM2.out,hNl]),by rw[←HM2.out,hNl];exact hcap,by rw[←HM2.out];exact hRl,hgr⟩
def DoOk (r:Fr) (k:Vl):Prop:=∀(A:Option Addr) (c:Nat) (L:List Sq) (w:World),L.length≤20→L.length≤c→(∀x∈L,x.s.vals.length≤1000000)→Rl w A L→Lie w L→
  Calls Tryz.prog 27 #[aggFr r, .agg #[.bool k.ok, .int .i64 k.n], .slice A L.length c] w (RetL (pickA Sq.s r k L) w)
def DoS (B:Nat) (r:Fr) (k:Vl) (W:World):Prop:=FAt W B r∧VAt W (B+1) k
theorem does4_any (nm:ByteArray) (by_:Int) (least:Bool) (HO:OfOk ⟨nm,4,by_,least⟩) (ko:Bool) (kn_:Int) (A:Option Addr) (c:Nat) (L:List Sq) (w:World) (hk:isB ⟨ko,kn_⟩=true) (h20:L.length≤20) (hcap:L.length≤c) (hle:∀x∈L,x.s.vals.length≤1000000) (hr:Rl w A L) (hv:Lie w L) :
  Calls Tryz.prog 27 #[.agg #[.string nm, .int .i64 4, .int .i64 by_, .bool least], .agg #[.bool ko, .int .i64 kn_], .slice A L.length c] w (RetL (firstL ⟨ko,kn_⟩ (sortR (fun a b=>ltV least (ofR by_ a.s.vals) (ofR by_ b.s.vals)) L)) w):=by
 have hl:L.length≤1000000:=by omega
 have gw:Gr w ((w.alloc (.cells #[.string nm, .int .i64 4, .int .i64 by_, .bool least] 46)).alloc (.cells #[.bool ko, .int .i64 kn_] 25)):=Gr.alloc (Gr.alloc (Gr.refl _) _) _
 have Q:=fun w hr hv=>sorted_any ⟨nm,4,by_,least⟩ HO A c L w h20 hle hr hv
 clear HO
 unfold aggFr at Q
 simp only at Q
 have hFA:FAt ((w.alloc (.cells #[.string nm, .int .i64 4, .int .i64 by_, .bool least] 46)).alloc (.cells #[.bool ko, .int .i64 kn_] 25)) w.heap.size ⟨nm,4,by_,least⟩:=by
  refine ⟨?_,?_,?_,?_,?_⟩
  all_goals first|(go_simp;done)|(simp;done)|(simp;omega)
 have hVA:VAt ((w.alloc (.cells #[.string nm, .int .i64 4, .int .i64 by_, .bool least] 46)).alloc (.cells #[.bool ko, .int .i64 kn_] 25)) (w.heap.size+1) ⟨ko,kn_⟩:=by
  refine ⟨?_,?_,?_⟩
  all_goals first|(go_simp;done)|(simp;done)
 have hS0:DoS w.heap.size ⟨nm,4,by_,least⟩ ⟨ko,kn_⟩ ((w.alloc (.cells #[.string nm, .int .i64 4, .int .i64 by_, .bool least] 46)).alloc (.cells #[.bool ko, .int .i64 kn_] 25)).drew:=⟨hFA.gr (Gr.drew (Gr.refl _)),hVA.gr (Gr.drew (Gr.refl _))⟩
 have gV0:Gr w ((w.alloc (.cells #[.string nm, .int .i64 4, .int .i64 by_, .bool least] 46)).alloc (.cells #[.bool ko, .int .i64 kn_] 25)).drew:=Gr.drew gw
 clear hFA hVA gw
 go_enter Tryz.func27,Tryz.ntmps27
 go_wp2
 obtain ⟨V,hV⟩:∃V,V=((w.alloc (.cells #[.string nm, .int .i64 4, .int .i64 by_, .bool least] 46)).alloc (.cells #[.bool ko, .int .i64 kn_] 25)).drew:=⟨_,rfl⟩
 refine wp_region_Z 5 (DoS w.heap.size ⟨nm,4,by_,least⟩ ⟨ko,kn_⟩) (by kernel_rfl) ?_
 rw[←hV] at hS0 gV0 ⊢
 clear hV
 refine zt 0 rfl hS0 (fun W hS=>by obtain ⟨⟨r0,r1,r2,r3,r4⟩,k0,k1,k2⟩:=hS;go_simp;rfl) ?_
 refine zt 1 rfl hS0 (fun W hS=>by obtain ⟨⟨r0,r1,r2,r3,r4⟩,k0,k1,k2⟩:=hS;go_simp;rfl) ?_
 refine zt 2 rfl hS0 (fun W hS=>by go_simp;rfl) ?_
 refine zs 3 rfl (fun K hK=>?_)
 go_simp
 refine (Q _ (hr.gr gV0) (hv.gr gV0)).mono ?_;rintro e w5 ⟨A1,c1,rfl,hc1,hr1,hg5⟩
 have gV5:=Gr.trans gV0 hg5
 have hS5:DoS w.heap.size ⟨nm,4,by_,least⟩ ⟨ko,kn_⟩ w5:=⟨hS0.1.gr hg5,hS0.2.gr hg5⟩
 go_wp2_with fail
 refine hK.out _ _ (fun hnz=>?s4) (fun _=>?r4)
 case s4=>exact hS5
 clear hK K
 try simp only[Pu]
 refine zs 4 rfl (fun K hK=>?_)
 go_simp
 refine (first_any ⟨ko,kn_⟩ A1 c1 _ _ hk (by rw[sortR_len];exact hl) hc1 hr1).mono ?_;rintro e w6 ⟨A2,c2,rfl,hc2,hr2,hg6⟩
 have gV6:=Gr.trans gV5 hg6
 have hS6:DoS w.heap.size ⟨nm,4,by_,least⟩ ⟨ko,kn_⟩ w6:=⟨hS5.1.gr hg6,hS5.2.gr hg6⟩
 go_wp2_with fail
 refine hK.out _ _ (fun hnz=>?s5) (fun _=>?r5)
 case s5=>exact hS6
 clear hK K
 try simp only[Pu]
 refine zs 5 rfl (fun K hK=>?_)
 go_simp
 refine hK.out _ _ (fun hnz=>?s6) (fun _=>?r6)
 case s6=>exact hS6
 clear hK K
 try simp only[Pu]
 refine wpAnyZ_done (by kernel_rfl) ?_ _
 clear hS0 hS6 Q hS5
 go_wp2
 go_ret
 exact ⟨A2,c2,rfl,hc2,hr2,gV6⟩
theorem ajf_any (x:Sq) (w:World) (hr:Rv w x.A x.s.vals):Calls Tryz.prog 20 #[.agg #[.string x.s.name, .int .i64 x.s.start, .int .i64 x.s.step, .slice x.A x.s.vals.length x.c, .int .i64 x.s.cons]] w fun e w'=>e= .returned (.bool (!isS x.s))∧Gr w w':=by
 have Q:=fun w hr=>sis_any x.s x.A x.c w hr
 cases h:isS x.s
 all_goals
  simp only[h] at Q
  go_enter Tryz.func20,Tryz.ntmps20
  go_wp2_with fail
  refine (Q _ ?hr).mono ?_
  case hr=>exact hr.gr gq
  rintro e w1 ⟨rfl,hg⟩
  go_wp2
  go_ret
  exact ⟨rfl,gq⟩
theorem aidxs_any (A:Option Addr) (c:Nat) (L:List Sq) (w:World) (hl:(L.length:Int)≤131072) (hr:Rl w A L) (hv:Lie w L) :
  Calls Tryz.prog 42 #[.slice A L.length c, .func (.func 20) #[] #[]] w fun e w'=>(∃k:Int,e= .returned (.int .i64 k)∧(0≤k↔okL L=false))∧Gr w w':=by
 go_enter Tryz.func42,Tryz.ntmps42
 go_wp2
 go_loopw [5,8] (fun _ i wr=>∃k:Nat,k≤L.length∧i= .int .i64 k∧Gr w wr∧okL (L.take k)=true) (fun _ i _=>L.length-(intOf i).toNat)
 case atStart=>exact ⟨0,Nat.zero_le _,rfl,Gr.refl _,rfl⟩
 case round=>
  obtain ⟨k,hk,rfl,hgr,ha⟩:=hrel
  by_cases hlt:k<L.length
  ·
   obtain ⟨ad,rfl,hb,hx0,hx1,hx2,hx3,hx4⟩:=(hr.gr hgr).at hlt
   have Ht:=okL_take hlt
   rw[ha] at Ht
   have Ht:=Lib.hid Ht
   have Hn:=Lib.hid (okL_no hlt)
   have hvx:=hv _ (List.getElem_mem hlt)
   have Q:=fun (w:World) (hr:Rv w (L[k]'hlt).A (L[k]'hlt).s.vals)=>ajf_any (L[k]'hlt) w hr
   clear ha
   cases hx:isS L[k].s
   ·
    simp only[hx,Bool.not_false] at Q
    go_wp2_with fail
    refine (Q _ (hvx.gr hgr)).mono ?_;rintro e w1 ⟨rfl,hg⟩
    go_wp2
    go_ret
    exact ⟨⟨_,rfl,by simp[Hn.out hx]⟩,gq⟩
   ·
    simp only[hx,Bool.not_true] at Q
    go_wp2_with fail
    refine (Q _ (hvx.gr hgr)).mono ?_;rintro e w1 ⟨rfl,hg⟩
    go_wp2
    go_roundw
    case rel=>exact ⟨k+1,by omega,by go_num,gq,by rw[Ht.out,hx];rfl⟩
    case measure=>simp[intOf];omega
  ·
   have hkk:k=L.length:=by omega
   subst hkk
   rw[List.take_length] at ha
   have Ha:=Lib.hid ha;clear ha
   go_wp2
   go_ret
   exact ⟨⟨_,rfl,by rw[Ha.out];simp⟩,gq⟩
theorem acons_any (A:Option Addr) (c:Nat) (L:List Sq) (w:World) (hl:(L.length:Int)≤131072) (hr:Rl w A L) (hv:Lie w L) :
  Calls Tryz.prog 19 #[.slice A L.length c, .func (.func 20) #[] #[]] w fun e w'=>e= .returned (.bool (!okL L))∧Gr w w':=by
 go_enter Tryz.func19,Tryz.ntmps19
 go_wp2_with fail
 refine (aidxs_any A c L _ hl hr hv).mono ?_;rintro e w1 ⟨⟨k,rfl,hk⟩,hg⟩
 have Hk:=Lib.hid hk;clear hk
 by_cases h0:0≤k
 ·
  go_wp2
  go_ret
  refine ⟨?_,hg⟩
  rw[Hk.out.1 h0]
  simp[h0]
 ·
  go_wp2
  go_ret
  refine ⟨?_,hg⟩
  have:okL L=true:=by
   cases hq:okL L
   ·
    exact absurd (Hk.out.2 hq) (by omega)
   ·
    rfl
  rw[this]
  simp[h0]
def RetA (E:Int) (S:List Sr) (w:World) (e:Ending) (w':World):Prop:=
 ∃(A:Option Addr) (M:List Sq) (c:Nat),e= .returned (.tuple #[.slice A M.length c, .int .i64 E])∧M.map Sq.s=S∧M.length≤c∧Rl w' A M∧Lie w' M∧Gr w w'
theorem RetA.no {E:Int} {w w':World} (g:Gr w w'):RetA E [] w (.returned (.tuple #[.slice none 0 0, .int .i64 E])) w':=
 ⟨none,[],0,rfl,rfl,Nat.le_refl _,Rd.nil _ _ _,fun x hx=>absurd hx (by simp),g⟩
theorem apply_bad (nm text:ByteArray) (k:Vl) (A:Option Addr) (c:Nat) (L:List Sq) (w:World) (hf:(findF nm).isSome=true) (hok:okL L=false) (h20:L.length≤20) (hr:Rl w A L) (hv:Lie w L) :
  Calls Tryz.prog 11 #[.string nm, .agg #[.bool k.ok, .int .i64 k.n], .string text, .slice A L.length c] w (RetA 1 [] w):=by
 have QF:=fun w=>find_any nm w
 unfold RetFind aggFr at QF
 simp only[hf] at QF
 have QC:=fun w hr hv=>acons_any A c L w (by omega) hr hv
 simp only[hok,Bool.not_false] at QC
 generalize rowF nm=r at QF
 go_enter Tryz.func11,Tryz.ntmps11
 go_wp2_with fail
 refine (QF _).mono ?_;rintro e w1 ⟨rfl,hg1⟩
 have gw1:=Gr.trans (Gr.alloc (Gr.alloc (Gr.refl w) _) _) hg1
 have gw2:=Gr.alloc gw1 (.cells #[.string r.nm, .int .i64 r.kind, .int .i64 r.by_, .bool r.least] 46)
 clear hg1
 go_wp2_with fail
 refine (QC _ (hr.gr gw2) (hv.gr gw2)).mono ?_;rintro e w3 ⟨rfl,hg3⟩
 go_wp2
 go_ret2
 exact RetA.no (Gr.trans gw2 hg3)
theorem apply_yes (nm text:ByteArray) (k:Vl) (A:Option Addr) (c:Nat) (L:List Sq) (w:World) (hf:(findF nm).isSome=true) (hok:okL L=true) (hk:isB k=true) (h1:1≤(rowF nm).kind) (HD:DoOk (rowF nm) k) (h20:L.length≤20) (hcap:L.length≤c) (hle:∀x∈L,x.s.vals.length≤1000000) (hr:Rl w A L) (hv:Lie w L) :
  Calls Tryz.prog 11 #[.string nm, .agg #[.bool k.ok, .int .i64 k.n], .string text, .slice A L.length c] w (RetA 0 ((pickA Sq.s (rowF nm) (normV k) L).map Sq.s) w):=by
 obtain ⟨i0,hi0,hz0,hz1,hz2⟩:=info_parts info_ser
 have hnk:normV k=k:=by unfold normV;rw[hk];rfl
 have QF:=fun w=>find_any nm w
 unfold RetFind aggFr at QF
 simp only[hf] at QF
 have QC:=fun w hr hv=>acons_any A c L w (by omega) hr hv
 simp only[hok,Bool.not_true] at QC
 have QI:=fun w=>is_any k.ok k.n w
 simp only[show isB ⟨k.ok,k.n⟩=true from hk] at QI
 have QD:=fun w hr hv=>HD A c L w h20 hcap hle hr hv
 clear HD
 unfold aggFr at QD
 rw[hnk]
 have hP1:=pickA_len Sq.s (rowF nm) k L
 have hP2:=pickA_mem Sq.s (rowF nm) k L
 generalize rowF nm=r at QF QD h1 hP1 hP2 ⊢
 generalize pickA Sq.s r k L=P at QD hP1 hP2 ⊢
 have hP20:(P.length:Int)≤20:=by omega
 have hkz:(r.kind==0)=false:=beq_eq_false_iff_ne.2 (by omega)
 have hkz':r.kind≠0:=by omega
 have HP:Hid (∀x∈P,x.s.vals.length≤1000000∧Rv w x.A x.s.vals):=Lib.hid (fun x hx=>⟨hle x (hP2 x hx),hv x (hP2 x hx)⟩)
 clear hle hP2 hP1 hk hnk hok hf h1 hcap
 have gb:Gr w ((w.alloc (.cells #[.string nm] 9)).alloc (.cells #[.bool k.ok, .int .i64 k.n] 25)):=Gr.alloc (Gr.alloc (Gr.refl _) _) _
 have hVA:VAt ((w.alloc (.cells #[.string nm] 9)).alloc (.cells #[.bool k.ok, .int .i64 k.n] 25)) (w.heap.size+1) k:=by
  refine ⟨?_,?_,?_⟩
  all_goals first|(go_simp;done)|(simp;done)
 have hF0:(((w.alloc (.cells #[.string nm] 9)).alloc (.cells #[.bool k.ok, .int .i64 k.n] 25))).frozen? ⟨w.heap.size+1,0,none⟩=false:=by go_simp
 have hF1:(((w.alloc (.cells #[.string nm] 9)).alloc (.cells #[.bool k.ok, .int .i64 k.n] 25))).frozen? ⟨w.heap.size+1,1,none⟩=false:=by go_simp
 go_enter Tryz.func11,Tryz.ntmps11
 go_wp2_with fail
 refine (QF _).mono ?_;rintro e w1 ⟨rfl,hg1⟩
 have hVA1:=hVA.gr hg1
 have gw1:=Gr.trans gb hg1
 have gR:Gr w1 (w1.alloc (.cells #[.string r.nm, .int .i64 r.kind, .int .i64 r.by_, .bool r.least] 46)):=Gr.alloc (Gr.refl _) _
 have hFA:FAt (w1.alloc (.cells #[.string r.nm, .int .i64 r.kind, .int .i64 r.by_, .bool r.least] 46)) w1.heap.size r:=by
  refine ⟨?_,?_,?_,?_,?_⟩
  all_goals first|(go_simp;done)|(simp;done)
 have hVA2:=hVA1.gr gR
 have f20:=(gR.frozen (p:=⟨w.heap.size+1,0,none⟩) hVA1.2.2).trans ((hg1.frozen (p:=⟨w.heap.size+1,0,none⟩) hVA.2.2).trans hF0)
 have f21:=(gR.frozen (p:=⟨w.heap.size+1,1,none⟩) hVA1.2.2).trans ((hg1.frozen (p:=⟨w.heap.size+1,1,none⟩) hVA.2.2).trans hF1)
 have gw2:=Gr.trans gw1 gR
 have zB:w.heap.size+1<w1.heap.size:=hVA1.2.2
 clear hVA hVA1 hg1 hF0 hF1 QF gb gR gw1
 go_wp2_with fail
 refine (QC _ (hr.gr gw2) (hv.gr gw2)).mono ?_;rintro e w3 ⟨rfl,hg3⟩
 have hVA3:=hVA2.gr hg3
 have hFA3:=hFA.gr hg3
 have f30:=(hg3.frozen (p:=⟨w.heap.size+1,0,none⟩) hVA2.2.2).trans f20
 have f31:=(hg3.frozen (p:=⟨w.heap.size+1,1,none⟩) hVA2.2.2).trans f21
 have gw3:=Gr.trans gw2 hg3
 clear hVA2 hFA f20 f21 gw2 hg3 QC
 obtain ⟨k30,k31,zk⟩:=id hVA3
 go_wp2_with fail
 refine (QI _).mono ?_;rintro e w4 ⟨rfl,hg4⟩
 have hVA4:=hVA3.gr hg4
 have hFA4:=hFA3.gr hg4
 have f40:=(hg4.frozen (p:=⟨w.heap.size+1,0,none⟩) zk).trans f30
 have f41:=(hg4.frozen (p:=⟨w.heap.size+1,1,none⟩) zk).trans f31
 have gw4:=Gr.trans gw3 hg4
 clear k30 k31 zk hVA3 hFA3 f30 f31 gw3 hg4 QI
 obtain ⟨k40,k41,zk⟩:=id hVA4
 obtain ⟨r0,r1,r2,r3,zr⟩:=id hFA4
 have gw:=gw4
 go_wp2_with fail
 refine (QD _ (hr.gr gw) (hv.gr gw)).mono ?_;rintro e wD ⟨AD,cD,rfl,hcD,hrD,hgD⟩
 clear k40 k41 zk r0 r1 r2 r3 zr hVA4 hFA4 f40 f41 gw4 QD
 have gD:=Gr.trans gw hgD
 clear hgD gw
 go_wp2
 go_loopw [15,51] (fun v i wr=>∃(j:Nat) (M:List Sq),j≤P.length∧i= .int .i64 j∧Gr w wr∧Gr wD wr∧wr.ownsRow wD.heap.size 34 5 v j (scells M)∧M.length=j∧Lie wr M∧Apart v.ownBlock M∧Hid (M.map Sq.s=(P.take j).map Sq.s)) (fun _ i _=>P.length-(intOf i).toNat)
 case atStart=>exact ⟨0,[],Nat.zero_le _,rfl,gD,Gr.refl _,World.ownsRow_nil _ _ _ _,rfl,fun x hx=>absurd hx (by simp),fun x hx=>absurd hx (by simp),Lib.hid rfl⟩
 case round=>
  obtain ⟨j,M,hj,rfl,hgr,hgD,hown,hMl,hLie,hAp,HM⟩:=hrel
  by_cases hlt:j<P.length
  ·
   obtain ⟨x,hx⟩:∃x,P[j]=x:=⟨_,rfl⟩
   obtain ⟨ad,rfl,hb,hx0,hx1,hx2,hx3,hx4⟩:=(hrD.gr hgD).at hlt
   have hmem:=HP.out _ (List.getElem_mem hlt)
   rw[hx] at hx0 hx1 hx2 hx3 hx4 hmem
   have hlx:=hmem.1
   have hvx:=hmem.2
   have QO:=fun w hr=>own_any x.s x.A x.c w hlx hr
   have HM2:Hid (∀y:Sq,y.s=x.s→(M++[y]).map Sq.s=(P.take (j+1)).map Sq.s):=Lib.hid (fun y hy=>by
    rw[List.take_succ_eq_append_getElem hlt,List.map_append,List.map_append,HM.out,hx]
    simp[hy])
   clear hx hlx hmem HM
   go_wp2_with fail
   refine (QO _ ((hvx.gr hgr).gr (Gr.alloc (Gr.refl _) _))).mono ?_;rintro e' w5 ⟨A5,c5,rfl,hr5,hg5,hnew⟩
   have hbox:=Gr.trans (Gr.alloc (Gr.refl wr) _) hg5
   have hown5:=own_gr hown hbox
   have gw5:=Gr.trans hgr hbox
   have gD5:=Gr.trans hgD hbox
   have hLie5:=hLie.gr hbox
   have hrx:=Rl.new (W:=w5) rfl 34 [⟨x.s,A5,c5⟩]
   have hv0:=hown5.alloc (.cells (scells [⟨x.s,A5,c5⟩]).toArray 34)
   have hvl:=hown5.lt
   have z5:=gw5.size
   have z6:=gD5.size
   have z7:=gD.size
   have HNW:=Lib.hid (fun (ad:Addr) (h:A5=some ad)=>new_apart hown (ad:=ad) (by have h1:=hnew ad h;simp at h1;omega))
   clear hnew hg5 hx0 hx1 hx2 hx3 hx4
   go_wp2_with
    (
     at_builtin
     refine wpList_append_rd rfl (.tmp 55) (.tmp 58) 22 rfl wD.heap.size 34 i0 _ 5 64 Tryz.underlying22 hi0 hz0 hz1 hz2 rfl (by decide) _ j _ rfl hv0 (some ⟨w5.heap.size,0,none⟩) 1 _ (scells [⟨x.s,A5,c5⟩]) rfl hrx (scells_one _) (by unfold maxLen;omega) (by omega) (by simp;omega) ?_
     intro v' w7 hown7 hgr7 hat7)
   have hg7:Gr w w7:=Gr.grown (Gr.alloc gw5 _) hgr7 (fun j hj=>by have:=(hvl j hj).1;omega)
   have hgD7:Gr wD w7:=Gr.grown (Gr.alloc gD5 _) hgr7 (fun j hj=>(hvl j hj).1)
   have hLie7:Lie w7 (M++[⟨x.s,A5,c5⟩]):=fun y hy=>by
    rcases List.mem_append.1 hy with hy|hy
    ·
     exact Rv.grown ((hLie5 y hy).gr (Gr.alloc (Gr.refl w5) _)) hgr7 (fun hn ad h=>hAp y hy hn ad h)
    ·
     rw[List.mem_singleton.1 hy]
     exact Rv.grown (hr5.gr (Gr.alloc (Gr.refl w5) _)) hgr7 (fun _ ad h=>HNW.out ad h)
   have hAp7:Apart v'.ownBlock (M++[⟨x.s,A5,c5⟩]):=fun y hy hn ad h=>by
    rcases hat7 with e7|e7
    ·
     rw[e7]
     rcases List.mem_append.1 hy with hy|hy
     ·
      exact hAp y hy hn ad h
     ·
      rw[List.mem_singleton.1 hy] at h;exact HNW.out ad h
    ·
     rw[e7]
     intro e8
     injection e8 with e8
     simp at e8
     rcases List.mem_append.1 hy with hy|hy
     ·
      have:=(hLie5 y hy).blk hn h;omega
     ·
      rw[List.mem_singleton.1 hy] at h hn
      have:=hr5.blk hn h;omega
   have hown8:w7.ownsRow wD.heap.size 34 5 v' (j+1) (scells (M++[⟨x.s,A5,c5⟩])):=by rw[scells_append];exact hown7
   have HM3:=Lib.hid (HM2.out ⟨x.s,A5,c5⟩ rfl)
   clear hv0 hvl hgr7 hat7 hrx hown5 hown7 hown hLie hLie5 hAp hr5 hbox HM2
   go_roundw
   case rel=>exact ⟨j+1,M++[⟨x.s,A5,c5⟩],by omega,by go_num,hg7,hgD7,hown8,by simp[hMl],hLie7,hAp7,HM3⟩
   case measure=>simp[intOf];omega
  ·
   have hkk:j=P.length:=by omega
   subst hkk
   obtain ⟨A',c',hvv⟩:=own_form hown
   subst hvv
   have hcap1:=own_cap hown
   have hRd:=Rd.own hown
   have HJ:Hid (M.map Sq.s=P.map Sq.s):=Lib.hid (by rw[HM.out,List.take_length])
   have HE2:Hid (Ending.returned (.tuple #[.slice A' P.length c', .int .i64 0])=Ending.returned (.tuple #[.slice A' M.length c', .int .i64 0])):=Lib.hid (by rw[hMl])
   have hRl:Rl wr A' M:=by unfold Rl;rw[hMl];exact hRd
   have HMC:Hid (M.length≤c'):=Lib.hid (by rw[hMl];exact hcap1)
   clear hMl HM hAp hown hRd
   go_wp2
   go_ret2
   exact ⟨A',M,c',HE2.out,HJ.out,HMC.out,hRl,hLie,hgr⟩
def applyE (nm:ByteArray) (S:List Sr):Int:=if (findF nm).isSome=true then (if S.all isS=true then 0 else 1) else 9
def applyS (nm:ByteArray) (k:Vl) (S:List Sr):List Sr:=if applyE nm S=0 then pickA id (rowF nm) (normV k) S else []
theorem pick_s (r:Fr) (k:Vl) (L:List Sq):(pickA Sq.s r k L).map Sq.s=pickA id r k (L.map Sq.s):=pickA_map Sq.s id r k L
theorem okL_s (L:List Sq):(L.map Sq.s).all isS=okL L:=(okL_all L).symm
theorem apply_ok (nm text:ByteArray) (k:Vl) (A:Option Addr) (c:Nat) (L:List Sq) (w:World) (hf:(findF nm).isSome=true) (h1:1≤(rowF nm).kind) (hk:isB k=true) (HD:DoOk (rowF nm) k) (hok:okL L=true) (h20:L.length≤20) (hcap:L.length≤c) (hle:∀x∈L,x.s.vals.length≤1000000) (hr:Rl w A L) (hv:Lie w L) :
  Calls Tryz.prog 11 #[.string nm, .agg #[.bool k.ok, .int .i64 k.n], .string text, .slice A L.length c] w (RetA (applyE nm (L.map Sq.s)) (applyS nm k (L.map Sq.s)) w):=by
 have hE:applyE nm (L.map Sq.s)=0:=by unfold applyE;rw[hf,okL_s,hok];rfl
 rw[show applyS nm k (L.map Sq.s)=(pickA Sq.s (rowF nm) (normV k) L).map Sq.s by unfold applyS;rw[hE,pick_s];rfl,hE]
 exact apply_yes nm text k A c L w hf hok hk h1 HD h20 hcap hle hr hv
end Go.Proofs.YtnphdacibageiaaGreat
