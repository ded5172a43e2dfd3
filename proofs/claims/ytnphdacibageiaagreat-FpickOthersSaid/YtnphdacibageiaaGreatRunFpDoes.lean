import Derived.Test.YtnphdacibageiaaGreatRunFpCmp
import Derived.Test.YtnphdacibageiaaGreatRunSrFitB
set_option linter.all false
set_option maxRecDepth 1000000
set_option maxHeartbeats 12800000
namespace Go.Proofs.YtnphdacibageiaaGreat
open Go.RowKit
theorem clones_any (A:Option Addr) (c:Nat) (L:List Sq) (w:World) (hl:L.length≤1000000) (hr:Rl w A L) :
  Calls Tryz.prog 51 #[.slice A L.length c] w fun e w'=>∃A' c',e= .returned (.slice A' L.length c')∧w'.ownsRow w.heap.size 34 5 (.slice A' L.length c') L.length (scells L)∧Gr w w':=by
 cases A with
 | none=>
  have h0:L=[]:=by
   rcases Nat.eq_zero_or_pos L.length with h|h
   ·
    exact List.eq_nil_of_length_eq_zero h
   ·
    obtain ⟨ad,e,_⟩:=hr.2 h;cases e
  subst h0
  have q22:∀(w:World) (a:Option Addr) (n c n' c':Nat),(binOp .eql 22 (.slice a n c) (.slice none n' c')).run Tryz.prog w= .ok (.bool a.isNone) w:=fun w a n c n' c'=>Lib.run_eql_slice_nil w _ _ a n c n' c' Tryz.underlying22
  go_enter Tryz.func51,Tryz.ntmps51
  go_wp2
  go_ret
  exact ⟨none,0,rfl,World.ownsRow_nil _ _ _ _,gq⟩
 | some ad=>
  obtain ⟨i0,hi,hz0,hz1,hz2⟩:=info_parts info_ser
  have hown0:=own_empty w w.heap.size (Nat.le_refl _) 34 5
  have hr0:Rd (w.alloc (.cells #[] 34)) 5 (some ad) L.length (scells L):=Rd.gr hr (Gr.alloc (Gr.refl w) (.cells #[] 34))
  have q22:∀(w:World) (a:Option Addr) (n c n' c':Nat),(binOp .eql 22 (.slice a n c) (.slice none n' c')).run Tryz.prog w= .ok (.bool a.isNone) w:=fun w a n c n' c'=>Lib.run_eql_slice_nil w _ _ a n c n' c' Tryz.underlying22
  go_enter Tryz.func51,Tryz.ntmps51
  go_wp2_with (at_builtin;refine wpList_append_rd rfl (.tmp 5) (.tmp 6) 22 rfl w.heap.size 34 i0 _ 5 64 Tryz.underlying22 hi hz0 hz1 hz2 rfl (by decide) _ _ _ rfl hown0 (some ad) L.length c (scells L) rfl hr0 (scells_one _) (by unfold maxLen;omega) (by omega) (by simp) ?_;intro v' w2 hown2 hgr2 hat2)
  have hg2:Gr w w2:=Gr.grown (Gr.alloc (Gr.refl w) _) hgr2 (fun k hk=>by have h:some w.heap.size=some k:=hk;injection h with h;omega)
  rw[Nat.zero_add,List.nil_append] at hown2
  obtain ⟨A',c',hv⟩:=own_form hown2
  subst hv
  clear hgr2 hat2 hown0 hr0
  go_wp2
  go_ret
  exact ⟨A',c',rfl,hown2,hg2⟩
theorem does1_any (nm:ByteArray) (by_:Int) (least:Bool) (ko:Bool) (kn_:Int) (A:Option Addr) (c:Nat) (L:List Sq) (w:World) (hk:isB ⟨ko,kn_⟩=true) (h20:L.length≤20) (hcap:L.length≤c) (hle:∀x∈L,x.s.vals.length≤1000000) (hr:Rl w A L) (hv:Lie w L) :
  Calls Tryz.prog 27 #[.agg #[.string nm, .int .i64 1, .int .i64 by_, .bool least], .agg #[.bool ko, .int .i64 kn_], .slice A L.length c] w (RetL (firstL ⟨ko,kn_⟩ L) w):=by
 have hl:L.length≤1000000:=by omega
 have gw:Gr w ((w.alloc (.cells #[.string nm, .int .i64 1, .int .i64 by_, .bool least] 46)).alloc (.cells #[.bool ko, .int .i64 kn_] 25)):=Gr.alloc (Gr.alloc (Gr.refl _) _) _
 go_enter Tryz.func27,Tryz.ntmps27
 go_wp2_with fail
 refine (first_any ⟨ko,kn_⟩ A c L _ hk hl hcap (hr.gr gw)).mono ?_;rintro e w1 ⟨A1,c1,rfl,hc1,hr1,hg⟩
 go_wp2
 go_ret
 exact ⟨A1,c1,rfl,hc1,hr1,Gr.trans gw hg⟩
theorem does2_any (nm:ByteArray) (by_:Int) (least:Bool) (ko:Bool) (kn_:Int) (A:Option Addr) (c:Nat) (L:List Sq) (w:World) (hk:isB ⟨ko,kn_⟩=true) (h20:L.length≤20) (hcap:L.length≤c) (hle:∀x∈L,x.s.vals.length≤1000000) (hr:Rl w A L) (hv:Lie w L) :
  Calls Tryz.prog 27 #[.agg #[.string nm, .int .i64 2, .int .i64 by_, .bool least], .agg #[.bool ko, .int .i64 kn_], .slice A L.length c] w (RetL (sortR (fun a b=>ltN a.s.name b.s.name) L) w):=by
 have hl:L.length≤1000000:=by omega
 have gw:Gr w ((w.alloc (.cells #[.string nm, .int .i64 2, .int .i64 by_, .bool least] 46)).alloc (.cells #[.bool ko, .int .i64 kn_] 25)):=Gr.alloc (Gr.alloc (Gr.refl _) _) _
 go_enter Tryz.func27,Tryz.ntmps27
 go_wp2_with fail
 refine (clones_any A c L _ hl (hr.gr gw)).mono ?_;rintro e w1 ⟨A1,c1,rfl,hown,hg⟩
 have gw1:=Gr.trans gw hg
 have QS:=Lib.hid (sortn_any _ c1 A1 L w w1 h20 hown gw1 gw.size)
 have hcap1:=own_cap hown
 clear hown hg
 go_wp2_with fail
 refine QS.out.mono ?_;rintro e w2 ⟨rfl,hg2,hrd⟩
 have hrl:Rl w2 A1 (sortR (fun a b=>ltN a.s.name b.s.name) L):=by unfold Rl;rw[sortR_len];exact hrd
 have HL:Hid (L.length=(sortR (fun a b=>ltN a.s.name b.s.name) L).length):=Lib.hid (by rw[sortR_len])
 clear hrd
 go_wp2
 go_ret
 exact ⟨A1,c1,ret_slice HL.out,by rw[←HL.out];exact hcap1,hrl,hg2⟩
theorem does3_any (nm:ByteArray) (by_:Int) (least:Bool) (ko:Bool) (kn_:Int) (A:Option Addr) (c:Nat) (L:List Sq) (w:World) (hk:isB ⟨ko,kn_⟩=true) (h20:L.length≤20) (hcap:L.length≤c) (hle:∀x∈L,x.s.vals.length≤1000000) (hr:Rl w A L) (hv:Lie w L) :
  Calls Tryz.prog 27 #[.agg #[.string nm, .int .i64 3, .int .i64 by_, .bool least], .agg #[.bool ko, .int .i64 kn_], .slice A L.length c] w (RetL (sortR (fun a b=>ltV least (ofR by_ a.s.vals) (ofR by_ b.s.vals)) L) w):=by
 have hl:L.length≤1000000:=by omega
 have gw:Gr w ((w.alloc (.cells #[.string nm, .int .i64 3, .int .i64 by_, .bool least] 46)).alloc (.cells #[.bool ko, .int .i64 kn_] 25)):=Gr.alloc (Gr.alloc (Gr.refl _) _) _
 have Q:=fun w hr hv=>sorted_any ⟨nm,3,by_,least⟩ A c L w h20 hle hr hv
 unfold aggFr at Q
 simp only at Q
 go_enter Tryz.func27,Tryz.ntmps27
 go_wp2_with fail
 refine (Q _ (hr.gr gw) (hv.gr gw)).mono ?_;rintro e w1 ⟨A1,c1,rfl,hc1,hr1,hg⟩
 go_wp2
 go_ret
 exact ⟨A1,c1,rfl,hc1,hr1,Gr.trans gw hg⟩
def DoS (B:Nat) (r:Fr) (k:Vl) (W:World):Prop:=FAt W B r∧VAt W (B+1) k
theorem does4_any (nm:ByteArray) (by_:Int) (least:Bool) (ko:Bool) (kn_:Int) (A:Option Addr) (c:Nat) (L:List Sq) (w:World) (hk:isB ⟨ko,kn_⟩=true) (h20:L.length≤20) (hcap:L.length≤c) (hle:∀x∈L,x.s.vals.length≤1000000) (hr:Rl w A L) (hv:Lie w L) :
  Calls Tryz.prog 27 #[.agg #[.string nm, .int .i64 4, .int .i64 by_, .bool least], .agg #[.bool ko, .int .i64 kn_], .slice A L.length c] w (RetL (firstL ⟨ko,kn_⟩ (sortR (fun a b=>ltV least (ofR by_ a.s.vals) (ofR by_ b.s.vals)) L)) w):=by
 have hl:L.length≤1000000:=by omega
 have gw:Gr w ((w.alloc (.cells #[.string nm, .int .i64 4, .int .i64 by_, .bool least] 46)).alloc (.cells #[.bool ko, .int .i64 kn_] 25)):=Gr.alloc (Gr.alloc (Gr.refl _) _) _
 have Q:=fun w hr hv=>sorted_any ⟨nm,4,by_,least⟩ A c L w h20 hle hr hv
 unfold aggFr at Q
 simp only at Q
 have hFA:FAt ((w.alloc (.cells #[.string nm, .int .i64 4, .int .i64 by_, .bool least] 46)).alloc (.cells #[.bool ko, .int .i64 kn_] 25)) w.heap.size ⟨nm,4,by_,least⟩:=by
  refine ⟨?_,?_,?_,?_,?_⟩
  all_goals first|(go_simp;done)|(simp;done)|(simp;omega)
 have hVA:VAt ((w.alloc (.cells #[.string nm, .int .i64 4, .int .i64 by_, .bool least] 46)).alloc (.cells #[.bool ko, .int .i64 kn_] 25)) (w.heap.size+1) ⟨ko,kn_⟩:=by
  refine ⟨?_,?_,?_⟩
  all_goals first|(go_simp;done)|(simp;done)
 have hS0:DoS w.heap.size ⟨nm,4,by_,least⟩ ⟨ko,kn_⟩ ((w.alloc (.cells #[.string nm, .int .i64 4, .int .i64 by_, .bool least] 46)).alloc (.cells #[.bool ko, .int .i64 kn_] 25)).drew:=⟨hFA.gr (Gr.drew (Gr.refl _)),hVA.gr (Gr.drew (Gr.refl _))⟩
 have gV0:Gr w ((w.alloc (.cells #[.string nm, .int .i64 4, .int .i64 by_, .bool least] 46)).alloc (.cells #[.bool ko, .int .i64 kn_] 25)).drew:=Gr.drew gw
 clear hFA hVA gw
 go_enter Tryz.func27,Tryz.ntmps27
 go_wp2
 obtain ⟨V,hV⟩:∃V,V=((w.alloc (.cells #[.string nm, .int .i64 4, .int .i64 by_, .bool least] 46)).alloc (.cells #[.bool ko, .int .i64 kn_] 25)).drew:=⟨_,rfl⟩
 refine wp_region_Z 5 (DoS w.heap.size ⟨nm,4,by_,least⟩ ⟨ko,kn_⟩) (by kernel_rfl) ?_
 rw[←hV] at hS0 gV0 ⊢
 clear hV
 refine zt 0 rfl hS0 (fun W hS=>by obtain ⟨⟨r0,r1,r2,r3,r4⟩,k0,k1,k2⟩:=hS;go_simp;rfl) ?_
 refine zt 1 rfl hS0 (fun W hS=>by obtain ⟨⟨r0,r1,r2,r3,r4⟩,k0,k1,k2⟩:=hS;go_simp;rfl) ?_
 refine zt 2 rfl hS0 (fun W hS=>by go_simp;rfl) ?_
 refine zs 3 rfl (fun K hK=>?_)
 go_simp
 refine (Q _ (hr.gr gV0) (hv.gr gV0)).mono ?_;rintro e w5 ⟨A1,c1,rfl,hc1,hr1,hg5⟩
 have gV5:=Gr.trans gV0 hg5
 have hS5:DoS w.heap.size ⟨nm,4,by_,least⟩ ⟨ko,kn_⟩ w5:=⟨hS0.1.gr hg5,hS0.2.gr hg5⟩
 go_wp2_with fail
 refine hK.out _ _ (fun hnz=>?s4) (fun _=>?r4)
 case s4=>exact hS5
 clear hK K
 try simp only[Pu]
 refine zs 4 rfl (fun K hK=>?_)
 go_simp
 refine (first_any ⟨ko,kn_⟩ A1 c1 _ _ hk (by rw[sortR_len];exact hl) hc1 hr1).mono ?_;rintro e w6 ⟨A2,c2,rfl,hc2,hr2,hg6⟩
 have gV6:=Gr.trans gV5 hg6
 have hS6:DoS w.heap.size ⟨nm,4,by_,least⟩ ⟨ko,kn_⟩ w6:=⟨hS5.1.gr hg6,hS5.2.gr hg6⟩
 go_wp2_with fail
 refine hK.out _ _ (fun hnz=>?s5) (fun _=>?r5)
 case s5=>exact hS6
 clear hK K
 try simp only[Pu]
 refine zs 5 rfl (fun K hK=>?_)
 go_simp
 refine hK.out _ _ (fun hnz=>?s6) (fun _=>?r6)
 case s6=>exact hS6
 clear hK K
 try simp only[Pu]
 refine wpAnyZ_done (by kernel_rfl) ?_ _
 clear hS0 hS6 Q hS5
 go_wp2
 go_ret
 exact ⟨A2,c2,rfl,hc2,hr2,gV6⟩
theorem does5_any (nm:ByteArray) (by_:Int) (least:Bool) (ko:Bool) (kn_:Int) (A:Option Addr) (c:Nat) (L:List Sq) (w:World) (hk:isB ⟨ko,kn_⟩=true) (h20:L.length≤20) (hcap:L.length≤c) (hle:∀x∈L,x.s.vals.length≤1000000) (hr:Rl w A L) (hv:Lie w L) :
  Calls Tryz.prog 27 #[.agg #[.string nm, .int .i64 5, .int .i64 by_, .bool least], .agg #[.bool ko, .int .i64 kn_], .slice A L.length c] w (RetL (L.filter fun x=>lessB ⟨ko,kn_⟩ (ofR by_ x.s.vals)) w):=by
 have hl:L.length≤1000000:=by omega
 have gw:Gr w ((w.alloc (.cells #[.string nm, .int .i64 5, .int .i64 by_, .bool least] 46)).alloc (.cells #[.bool ko, .int .i64 kn_] 25)):=Gr.alloc (Gr.alloc (Gr.refl _) _) _
 have hFA:FAt ((w.alloc (.cells #[.string nm, .int .i64 5, .int .i64 by_, .bool least] 46)).alloc (.cells #[.bool ko, .int .i64 kn_] 25)) w.heap.size ⟨nm,5,by_,least⟩:=by
  refine ⟨?_,?_,?_,?_,?_⟩
  all_goals first|(go_simp;done)|(simp;done)|(simp;omega)
 have hVA:VAt ((w.alloc (.cells #[.string nm, .int .i64 5, .int .i64 by_, .bool least] 46)).alloc (.cells #[.bool ko, .int .i64 kn_] 25)) (w.heap.size+1) ⟨ko,kn_⟩:=by
  refine ⟨?_,?_,?_⟩
  all_goals first|(go_simp;done)|(simp;done)
 have QT:=Lib.hid (fun (w2:World) (g2:Gr ((w.alloc (.cells #[.string nm, .int .i64 5, .int .i64 by_, .bool least] 46)).alloc (.cells #[.bool ko, .int .i64 kn_] 25)) w2)=>thosea_any (.pointer (some ⟨w.heap.size+1,0,none⟩)) (.pointer (some ⟨w.heap.size,0,none⟩)) (fun x=>lessB ⟨ko,kn_⟩ (ofR by_ x.s.vals)) A c L w2 hl ((hr.gr gw).gr g2) (fun x hx W hW=>above_any (w.heap.size+1) w.heap.size ⟨ko,kn_⟩ ⟨nm,5,by_,least⟩ x W ((hVA.gr g2).gr hW) ((hFA.gr g2).gr hW) (hle x hx) ((((hv x hx).gr gw).gr g2).gr hW)))
 clear hFA hVA
 go_enter Tryz.func27,Tryz.ntmps27
 go_wp2_with fail
 refine (QT.out _ (Gr.refl _)).mono ?_;rintro e w1 ⟨A1,c1,rfl,hc1,hr1,hg⟩
 go_wp2
 go_ret
 exact ⟨A1,c1,rfl,hc1,hr1,Gr.trans gw hg⟩
theorem does6_any (nm:ByteArray) (by_:Int) (least:Bool) (ko:Bool) (kn_:Int) (A:Option Addr) (c:Nat) (L:List Sq) (w:World) (hk:isB ⟨ko,kn_⟩=true) (h20:L.length≤20) (hcap:L.length≤c) (hle:∀x∈L,x.s.vals.length≤1000000) (hr:Rl w A L) (hv:Lie w L) :
  Calls Tryz.prog 27 #[.agg #[.string nm, .int .i64 6, .int .i64 by_, .bool least], .agg #[.bool ko, .int .i64 kn_], .slice A L.length c] w (RetL (L.filter fun x=>belowB ⟨ko,kn_⟩ (ofR by_ x.s.vals)) w):=by
 have hl:L.length≤1000000:=by omega
 have gw:Gr w ((w.alloc (.cells #[.string nm, .int .i64 6, .int .i64 by_, .bool least] 46)).alloc (.cells #[.bool ko, .int .i64 kn_] 25)):=Gr.alloc (Gr.alloc (Gr.refl _) _) _
 have hFA:FAt ((w.alloc (.cells #[.string nm, .int .i64 6, .int .i64 by_, .bool least] 46)).alloc (.cells #[.bool ko, .int .i64 kn_] 25)) w.heap.size ⟨nm,6,by_,least⟩:=by
  refine ⟨?_,?_,?_,?_,?_⟩
  all_goals first|(go_simp;done)|(simp;done)|(simp;omega)
 have hVA:VAt ((w.alloc (.cells #[.string nm, .int .i64 6, .int .i64 by_, .bool least] 46)).alloc (.cells #[.bool ko, .int .i64 kn_] 25)) (w.heap.size+1) ⟨ko,kn_⟩:=by
  refine ⟨?_,?_,?_⟩
  all_goals first|(go_simp;done)|(simp;done)
 have QT:=Lib.hid (fun (w2:World) (g2:Gr ((w.alloc (.cells #[.string nm, .int .i64 6, .int .i64 by_, .bool least] 46)).alloc (.cells #[.bool ko, .int .i64 kn_] 25)) w2)=>thoseb_any (.pointer (some ⟨w.heap.size,0,none⟩)) (.pointer (some ⟨w.heap.size+1,0,none⟩)) (fun x=>belowB ⟨ko,kn_⟩ (ofR by_ x.s.vals)) A c L w2 hl ((hr.gr gw).gr g2) (fun x hx W hW=>below_any (w.heap.size+1) w.heap.size ⟨ko,kn_⟩ ⟨nm,6,by_,least⟩ x W ((hVA.gr g2).gr hW) ((hFA.gr g2).gr hW) (hle x hx) ((((hv x hx).gr gw).gr g2).gr hW)))
 clear hFA hVA
 go_enter Tryz.func27,Tryz.ntmps27
 go_wp2_with fail
 refine (QT.out _ (Gr.refl _)).mono ?_;rintro e w1 ⟨A1,c1,rfl,hc1,hr1,hg⟩
 go_wp2
 go_ret
 exact ⟨A1,c1,rfl,hc1,hr1,Gr.trans gw hg⟩
theorem does7_any (nm:ByteArray) (by_:Int) (least:Bool) (ko:Bool) (kn_:Int) (A:Option Addr) (c:Nat) (L:List Sq) (w:World) (hk:isB ⟨ko,kn_⟩=true) (h20:L.length≤20) (hcap:L.length≤c) (hle:∀x∈L,x.s.vals.length≤1000000) (hr:Rl w A L) (hv:Lie w L) :
  Calls Tryz.prog 27 #[.agg #[.string nm, .int .i64 7, .int .i64 by_, .bool least], .agg #[.bool ko, .int .i64 kn_], .slice A L.length c] w (RetL (L.filter fun x=> !(kn x.s.vals).isEmpty) w):=by
 have hl:L.length≤1000000:=by omega
 have gw:Gr w ((w.alloc (.cells #[.string nm, .int .i64 7, .int .i64 by_, .bool least] 46)).alloc (.cells #[.bool ko, .int .i64 kn_] 25)):=Gr.alloc (Gr.alloc (Gr.refl _) _) _
 have hFA:FAt ((w.alloc (.cells #[.string nm, .int .i64 7, .int .i64 by_, .bool least] 46)).alloc (.cells #[.bool ko, .int .i64 kn_] 25)) w.heap.size ⟨nm,7,by_,least⟩:=by
  refine ⟨?_,?_,?_,?_,?_⟩
  all_goals first|(go_simp;done)|(simp;done)|(simp;omega)
 have hVA:VAt ((w.alloc (.cells #[.string nm, .int .i64 7, .int .i64 by_, .bool least] 46)).alloc (.cells #[.bool ko, .int .i64 kn_] 25)) (w.heap.size+1) ⟨ko,kn_⟩:=by
  refine ⟨?_,?_,?_⟩
  all_goals first|(go_simp;done)|(simp;done)
 have QT:=Lib.hid (fun (w2:World) (g2:Gr ((w.alloc (.cells #[.string nm, .int .i64 7, .int .i64 by_, .bool least] 46)).alloc (.cells #[.bool ko, .int .i64 kn_] 25)) w2)=>thosek_any (fun x=> !(kn x.s.vals).isEmpty) A c L w2 hl ((hr.gr gw).gr g2) (fun x hx W hW=>keepsk_any x W (hle x hx) ((((hv x hx).gr gw).gr g2).gr hW)))
 clear hFA hVA
 go_enter Tryz.func27,Tryz.ntmps27
 go_wp2_with fail
 refine (QT.out _ (Gr.refl _)).mono ?_;rintro e w1 ⟨A1,c1,rfl,hc1,hr1,hg⟩
 go_wp2
 go_ret
 exact ⟨A1,c1,rfl,hc1,hr1,Gr.trans gw hg⟩
theorem does_any (r:Fr) (k:Vl) (A:Option Addr) (c:Nat) (L:List Sq) (w:World) (hk:isB k=true) (h20:L.length≤20) (hcap:L.length≤c) (hle:∀x∈L,x.s.vals.length≤1000000) (hr:Rl w A L) (hv:Lie w L) (h1:1≤r.kind) (h7:r.kind≤7) :
  Calls Tryz.prog 27 #[aggFr r, .agg #[.bool k.ok, .int .i64 k.n], .slice A L.length c] w (RetL (pickA Sq.s r k L) w):=by
 obtain ⟨nm,kind,by_,least⟩:=r
 obtain ⟨ko,kn_⟩:=k
 simp only at h1 h7
 have hc:kind=1∨kind=2∨kind=3∨kind=4∨kind=5∨kind=6∨kind=7:=by omega
 rcases hc with rfl|rfl|rfl|rfl|rfl|rfl|rfl
 ·
  exact does1_any nm by_ least ko kn_ A c L w hk h20 hcap hle hr hv
 ·
  exact does2_any nm by_ least ko kn_ A c L w hk h20 hcap hle hr hv
 ·
  exact does3_any nm by_ least ko kn_ A c L w hk h20 hcap hle hr hv
 ·
  exact does4_any nm by_ least ko kn_ A c L w hk h20 hcap hle hr hv
 ·
  exact does5_any nm by_ least ko kn_ A c L w hk h20 hcap hle hr hv
 ·
  exact does6_any nm by_ least ko kn_ A c L w hk h20 hcap hle hr hv
 ·
  exact does7_any nm by_ least ko kn_ A c L w hk h20 hcap hle hr hv
theorem ajf_any (x:Sq) (w:World) (hr:Rv w x.A x.s.vals):Calls Tryz.prog 20 #[.agg #[.string x.s.name, .int .i64 x.s.start, .int .i64 x.s.step, .slice x.A x.s.vals.length x.c, .int .i64 x.s.cons]] w fun e w'=>e= .returned (.bool (!isS x.s))∧Gr w w':=by
 have Q:=fun w hr=>sis_any x.s x.A x.c w hr
 cases h:isS x.s
 all_goals
  simp only[h] at Q
  go_enter Tryz.func20,Tryz.ntmps20
  go_wp2_with fail
  refine (Q _ ?hr).mono ?_
  case hr=>exact hr.gr gq
  rintro e w1 ⟨rfl,hg⟩
  go_wp2
  go_ret
  exact ⟨rfl,gq⟩
theorem aidxs_any (A:Option Addr) (c:Nat) (L:List Sq) (w:World) (hl:(L.length:Int)≤131072) (hr:Rl w A L) (hv:Lie w L) :
  Calls Tryz.prog 42 #[.slice A L.length c, .func (.func 20) #[] #[]] w fun e w'=>(∃k:Int,e= .returned (.int .i64 k)∧(0≤k↔okL L=false))∧Gr w w':=by
 go_enter Tryz.func42,Tryz.ntmps42
 go_wp2
 go_loopw [5,8] (fun _ i wr=>∃k:Nat,k≤L.length∧i= .int .i64 k∧Gr w wr∧okL (L.take k)=true) (fun _ i _=>L.length-(intOf i).toNat)
 case atStart=>exact ⟨0,Nat.zero_le _,rfl,Gr.refl _,rfl⟩
 case round=>
  obtain ⟨k,hk,rfl,hgr,ha⟩:=hrel
  by_cases hlt:k<L.length
  ·
   obtain ⟨ad,rfl,hb,hx0,hx1,hx2,hx3,hx4⟩:=(hr.gr hgr).at hlt
   have Ht:=okL_take hlt
   rw[ha] at Ht
   have Ht:=Lib.hid Ht
   have Hn:=Lib.hid (okL_no hlt)
   have hvx:=hv _ (List.getElem_mem hlt)
   have Q:=fun (w:World) (hr:Rv w (L[k]'hlt).A (L[k]'hlt).s.vals)=>ajf_any (L[k]'hlt) w hr
   clear ha
   cases hx:isS L[k].s
   ·
    simp only[hx,Bool.not_false] at Q
    go_wp2_with fail
    refine (Q _ (hvx.gr hgr)).mono ?_;rintro e w1 ⟨rfl,hg⟩
    go_wp2
    go_ret
    exact ⟨⟨_,rfl,by simp[Hn.out hx]⟩,gq⟩
   ·
    simp only[hx,Bool.not_true] at Q
    go_wp2_with fail
    refine (Q _ (hvx.gr hgr)).mono ?_;rintro e w1 ⟨rfl,hg⟩
    go_wp2
    go_roundw
    case rel=>exact ⟨k+1,by omega,by go_num,gq,by rw[Ht.out,hx];rfl⟩
    case measure=>simp[intOf];omega
  ·
   have hkk:k=L.length:=by omega
   subst hkk
   rw[List.take_length] at ha
   have Ha:=Lib.hid ha;clear ha
   go_wp2
   go_ret
   exact ⟨⟨_,rfl,by rw[Ha.out];simp⟩,gq⟩
theorem acons_any (A:Option Addr) (c:Nat) (L:List Sq) (w:World) (hl:(L.length:Int)≤131072) (hr:Rl w A L) (hv:Lie w L) :
  Calls Tryz.prog 19 #[.slice A L.length c, .func (.func 20) #[] #[]] w fun e w'=>e= .returned (.bool (!okL L))∧Gr w w':=by
 go_enter Tryz.func19,Tryz.ntmps19
 go_wp2_with fail
 refine (aidxs_any A c L _ hl hr hv).mono ?_;rintro e w1 ⟨⟨k,rfl,hk⟩,hg⟩
 have Hk:=Lib.hid hk;clear hk
 by_cases h0:0≤k
 ·
  go_wp2
  go_ret
  refine ⟨?_,hg⟩
  rw[Hk.out.1 h0]
  simp[h0]
 ·
  go_wp2
  go_ret
  refine ⟨?_,hg⟩
  have:okL L=true:=by
   cases hq:okL L
   ·
    exact absurd (Hk.out.2 hq) (by omega)
   ·
    rfl
  rw[this]
  simp[h0]
def RetA (E:Int) (S:List Sr) (w:World) (e:Ending) (w':World):Prop:=
 ∃(A:Option Addr) (M:List Sq) (c:Nat),e= .returned (.tuple #[.slice A M.length c, .int .i64 E])∧M.map Sq.s=S∧M.length≤c∧Rl w' A M∧Lie w' M∧Gr w w'
theorem RetA.no {E:Int} {w w':World} (g:Gr w w'):RetA E [] w (.returned (.tuple #[.slice none 0 0, .int .i64 E])) w':=
 ⟨none,[],0,rfl,rfl,Nat.le_refl _,Rd.nil _ _ _,fun x hx=>absurd hx (by simp),g⟩
theorem apply_no (nm text:ByteArray) (k:Vl) (A:Option Addr) (c:Nat) (L:List Sq) (w:World) (hf:(findF nm).isSome=false) :
  Calls Tryz.prog 11 #[.string nm, .agg #[.bool k.ok, .int .i64 k.n], .string text, .slice A L.length c] w (RetA 9 [] w):=by
 have QF:=fun w=>find_any nm w
 unfold RetFind aggFr at QF
 simp only[hf] at QF
 generalize rowF nm=r at QF
 go_enter Tryz.func11,Tryz.ntmps11
 go_wp2_with fail
 refine (QF _).mono ?_;rintro e w1 ⟨rfl,hg1⟩
 have gw1:=Gr.trans (Gr.alloc (Gr.alloc (Gr.refl w) _) _) hg1
 go_wp2
 go_ret2
 exact RetA.no (Gr.alloc gw1 _)
theorem apply_bad (nm text:ByteArray) (k:Vl) (A:Option Addr) (c:Nat) (L:List Sq) (w:World) (hf:(findF nm).isSome=true) (hok:okL L=false) (h20:L.length≤20) (hr:Rl w A L) (hv:Lie w L) :
  Calls Tryz.prog 11 #[.string nm, .agg #[.bool k.ok, .int .i64 k.n], .string text, .slice A L.length c] w (RetA 1 [] w):=by
 have QF:=fun w=>find_any nm w
 unfold RetFind aggFr at QF
 simp only[hf] at QF
 have QC:=fun w hr hv=>acons_any A c L w (by omega) hr hv
 simp only[hok,Bool.not_false] at QC
 generalize rowF nm=r at QF
 go_enter Tryz.func11,Tryz.ntmps11
 go_wp2_with fail
 refine (QF _).mono ?_;rintro e w1 ⟨rfl,hg1⟩
 have gw1:=Gr.trans (Gr.alloc (Gr.alloc (Gr.refl w) _) _) hg1
 have gw2:=Gr.alloc gw1 (.cells #[.string r.nm, .int .i64 r.kind, .int .i64 r.by_, .bool r.least] 46)
 clear hg1
 go_wp2_with fail
 refine (QC _ (hr.gr gw2) (hv.gr gw2)).mono ?_;rintro e w3 ⟨rfl,hg3⟩
 go_wp2
 go_ret2
 exact RetA.no (Gr.trans gw2 hg3)
theorem apply_yes (nm text:ByteArray) (k:Vl) (A:Option Addr) (c:Nat) (L:List Sq) (w:World) (hf:(findF nm).isSome=true) (hok:okL L=true) (hk:isB k=true) (h1:1≤(rowF nm).kind) (h7:(rowF nm).kind≤7) (h20:L.length≤20) (hcap:L.length≤c) (hle:∀x∈L,x.s.vals.length≤1000000) (hr:Rl w A L) (hv:Lie w L) :
  Calls Tryz.prog 11 #[.string nm, .agg #[.bool k.ok, .int .i64 k.n], .string text, .slice A L.length c] w (RetA 0 ((pickA Sq.s (rowF nm) (normV k) L).map Sq.s) w):=by
 obtain ⟨i0,hi0,hz0,hz1,hz2⟩:=info_parts info_ser
 have hnk:normV k=k:=by unfold normV;rw[hk];rfl
 have QF:=fun w=>find_any nm w
 unfold RetFind aggFr at QF
 simp only[hf] at QF
 have QC:=fun w hr hv=>acons_any A c L w (by omega) hr hv
 simp only[hok,Bool.not_true] at QC
 have QI:=fun w=>is_any k.ok k.n w
 simp only[show isB ⟨k.ok,k.n⟩=true from hk] at QI
 have QD:=fun w hr hv=>does_any (rowF nm) k A c L w (by exact hk) h20 hcap hle hr hv h1 h7
 unfold aggFr at QD
 rw[hnk]
 have hP1:=pickA_len Sq.s (rowF nm) k L
 have hP2:=pickA_mem Sq.s (rowF nm) k L
 generalize rowF nm=r at QF QD h1 h7 hP1 hP2 ⊢
 generalize pickA Sq.s r k L=P at QD hP1 hP2 ⊢
 have hP20:(P.length:Int)≤20:=by omega
 have hkz:(r.kind==0)=false:=beq_eq_false_iff_ne.2 (by omega)
 have hkz':r.kind≠0:=by omega
 have HP:Hid (∀x∈P,x.s.vals.length≤1000000∧Rv w x.A x.s.vals):=Lib.hid (fun x hx=>⟨hle x (hP2 x hx),hv x (hP2 x hx)⟩)
 clear hle hP2 hP1 hk hnk hok hf h1 h7 hcap
 have gb:Gr w ((w.alloc (.cells #[.string nm] 9)).alloc (.cells #[.bool k.ok, .int .i64 k.n] 25)):=Gr.alloc (Gr.alloc (Gr.refl _) _) _
 have hVA:VAt ((w.alloc (.cells #[.string nm] 9)).alloc (.cells #[.bool k.ok, .int .i64 k.n] 25)) (w.heap.size+1) k:=by
  refine ⟨?_,?_,?_⟩
  all_goals first|(go_simp;done)|(simp;done)
 have hF0:(((w.alloc (.cells #[.string nm] 9)).alloc (.cells #[.bool k.ok, .int .i64 k.n] 25))).frozen? ⟨w.heap.size+1,0,none⟩=false:=by go_simp
 have hF1:(((w.alloc (.cells #[.string nm] 9)).alloc (.cells #[.bool k.ok, .int .i64 k.n] 25))).frozen? ⟨w.heap.size+1,1,none⟩=false:=by go_simp
 go_enter Tryz.func11,Tryz.ntmps11
 go_wp2_with fail
 refine (QF _).mono ?_;rintro e w1 ⟨rfl,hg1⟩
 have hVA1:=hVA.gr hg1
 have gw1:=Gr.trans gb hg1
 have gR:Gr w1 (w1.alloc (.cells #[.string r.nm, .int .i64 r.kind, .int .i64 r.by_, .bool r.least] 46)):=Gr.alloc (Gr.refl _) _
 have hFA:FAt (w1.alloc (.cells #[.string r.nm, .int .i64 r.kind, .int .i64 r.by_, .bool r.least] 46)) w1.heap.size r:=by
  refine ⟨?_,?_,?_,?_,?_⟩
  all_goals first|(go_simp;done)|(simp;done)
 have hVA2:=hVA1.gr gR
 have f20:=(gR.frozen (p:=⟨w.heap.size+1,0,none⟩) hVA1.2.2).trans ((hg1.frozen (p:=⟨w.heap.size+1,0,none⟩) hVA.2.2).trans hF0)
 have f21:=(gR.frozen (p:=⟨w.heap.size+1,1,none⟩) hVA1.2.2).trans ((hg1.frozen (p:=⟨w.heap.size+1,1,none⟩) hVA.2.2).trans hF1)
 have gw2:=Gr.trans gw1 gR
 have zB:w.heap.size+1<w1.heap.size:=hVA1.2.2
 clear hVA hVA1 hg1 hF0 hF1 QF gb gR gw1
 go_wp2_with fail
 refine (QC _ (hr.gr gw2) (hv.gr gw2)).mono ?_;rintro e w3 ⟨rfl,hg3⟩
 have hVA3:=hVA2.gr hg3
 have hFA3:=hFA.gr hg3
 have f30:=(hg3.frozen (p:=⟨w.heap.size+1,0,none⟩) hVA2.2.2).trans f20
 have f31:=(hg3.frozen (p:=⟨w.heap.size+1,1,none⟩) hVA2.2.2).trans f21
 have gw3:=Gr.trans gw2 hg3
 clear hVA2 hFA f20 f21 gw2 hg3 QC
 obtain ⟨k30,k31,zk⟩:=id hVA3
 go_wp2_with fail
 refine (QI _).mono ?_;rintro e w4 ⟨rfl,hg4⟩
 have hVA4:=hVA3.gr hg4
 have hFA4:=hFA3.gr hg4
 have f40:=(hg4.frozen (p:=⟨w.heap.size+1,0,none⟩) zk).trans f30
 have f41:=(hg4.frozen (p:=⟨w.heap.size+1,1,none⟩) zk).trans f31
 have gw4:=Gr.trans gw3 hg4
 clear k30 k31 zk hVA3 hFA3 f30 f31 gw3 hg4 QI
 obtain ⟨k40,k41,zk⟩:=id hVA4
 obtain ⟨r0,r1,r2,r3,zr⟩:=id hFA4
 have gw:=gw4
 go_wp2_with fail
 refine (QD _ (hr.gr gw) (hv.gr gw)).mono ?_;rintro e wD ⟨AD,cD,rfl,hcD,hrD,hgD⟩
 clear k40 k41 zk r0 r1 r2 r3 zr hVA4 hFA4 f40 f41 gw4 QD
 have gD:=Gr.trans gw hgD
 clear hgD gw
 go_wp2
 go_loopw [15,51] (fun v i wr=>∃(j:Nat) (M:List Sq),j≤P.length∧i= .int .i64 j∧Gr w wr∧Gr wD wr∧wr.ownsRow wD.heap.size 34 5 v j (scells M)∧M.length=j∧Lie wr M∧Apart v.ownBlock M∧Hid (M.map Sq.s=(P.take j).map Sq.s)) (fun _ i _=>P.length-(intOf i).toNat)
 case atStart=>exact ⟨0,[],Nat.zero_le _,rfl,gD,Gr.refl _,World.ownsRow_nil _ _ _ _,rfl,fun x hx=>absurd hx (by simp),fun x hx=>absurd hx (by simp),Lib.hid rfl⟩
 case round=>
  obtain ⟨j,M,hj,rfl,hgr,hgD,hown,hMl,hLie,hAp,HM⟩:=hrel
  by_cases hlt:j<P.length
  ·
   obtain ⟨x,hx⟩:∃x,P[j]=x:=⟨_,rfl⟩
   obtain ⟨ad,rfl,hb,hx0,hx1,hx2,hx3,hx4⟩:=(hrD.gr hgD).at hlt
   have hmem:=HP.out _ (List.getElem_mem hlt)
   rw[hx] at hx0 hx1 hx2 hx3 hx4 hmem
   have hlx:=hmem.1
   have hvx:=hmem.2
   have QO:=fun w hr=>own_any x.s x.A x.c w hlx hr
   have HM2:Hid (∀y:Sq,y.s=x.s→(M++[y]).map Sq.s=(P.take (j+1)).map Sq.s):=Lib.hid (fun y hy=>by
    rw[List.take_succ_eq_append_getElem hlt,List.map_append,List.map_append,HM.out,hx]
    simp[hy])
   clear hx hlx hmem HM
   go_wp2_with fail
   refine (QO _ ((hvx.gr hgr).gr (Gr.alloc (Gr.refl _) _))).mono ?_;rintro e' w5 ⟨A5,c5,rfl,hr5,hg5,hnew⟩
   have hbox:=Gr.trans (Gr.alloc (Gr.refl wr) _) hg5
   have hown5:=own_gr hown hbox
   have gw5:=Gr.trans hgr hbox
   have gD5:=Gr.trans hgD hbox
   have hLie5:=hLie.gr hbox
   have hrx:=Rl.new (W:=w5) rfl 34 [⟨x.s,A5,c5⟩]
   have hv0:=hown5.alloc (.cells (scells [⟨x.s,A5,c5⟩]).toArray 34)
   have hvl:=hown5.lt
   have z5:=gw5.size
   have z6:=gD5.size
   have z7:=gD.size
   have HNW:=Lib.hid (fun (ad:Addr) (h:A5=some ad)=>new_apart hown (ad:=ad) (by have h1:=hnew ad h;simp at h1;omega))
   clear hnew hg5 hx0 hx1 hx2 hx3 hx4
   go_wp2_with
    (
     at_builtin
     refine wpList_append_rd rfl (.tmp 55) (.tmp 58) 22 rfl wD.heap.size 34 i0 _ 5 64 Tryz.underlying22 hi0 hz0 hz1 hz2 rfl (by decide) _ j _ rfl hv0 (some ⟨w5.heap.size,0,none⟩) 1 _ (scells [⟨x.s,A5,c5⟩]) rfl hrx (scells_one _) (by unfold maxLen;omega) (by omega) (by simp;omega) ?_
     intro v' w7 hown7 hgr7 hat7)
   have hg7:Gr w w7:=Gr.grown (Gr.alloc gw5 _) hgr7 (fun j hj=>by have:=(hvl j hj).1;omega)
   have hgD7:Gr wD w7:=Gr.grown (Gr.alloc gD5 _) hgr7 (fun j hj=>(hvl j hj).1)
   have hLie7:Lie w7 (M++[⟨x.s,A5,c5⟩]):=fun y hy=>by
    rcases List.mem_append.1 hy with hy|hy
    ·
     exact Rv.grown ((hLie5 y hy).gr (Gr.alloc (Gr.refl w5) _)) hgr7 (fun hn ad h=>hAp y hy hn ad h)
    ·
     rw[List.mem_singleton.1 hy]
     exact Rv.grown (hr5.gr (Gr.alloc (Gr.refl w5) _)) hgr7 (fun _ ad h=>HNW.out ad h)
   have hAp7:Apart v'.ownBlock (M++[⟨x.s,A5,c5⟩]):=fun y hy hn ad h=>by
    rcases hat7 with e7|e7
    ·
     rw[e7]
     rcases List.mem_append.1 hy with hy|hy
     ·
      exact hAp y hy hn ad h
     ·
      rw[List.mem_singleton.1 hy] at h;exact HNW.out ad h
    ·
     rw[e7]
     intro e8
     injection e8 with e8
     simp at e8
     rcases List.mem_append.1 hy with hy|hy
     ·
      have:=(hLie5 y hy).blk hn h;omega
     ·
      rw[List.mem_singleton.1 hy] at h hn
      have:=hr5.blk hn h;omega
   have hown8:w7.ownsRow wD.heap.size 34 5 v' (j+1) (scells (M++[⟨x.s,A5,c5⟩])):=by rw[scells_append];exact hown7
   have HM3:=Lib.hid (HM2.out ⟨x.s,A5,c5⟩ rfl)
   clear hv0 hvl hgr7 hat7 hrx hown5 hown7 hown hLie hLie5 hAp hr5 hbox HM2
   go_roundw
   case rel=>exact ⟨j+1,M++[⟨x.s,A5,c5⟩],by omega,by go_num,hg7,hgD7,hown8,by simp[hMl],hLie7,hAp7,HM3⟩
   case measure=>simp[intOf];omega
  ·
   have hkk:j=P.length:=by omega
   subst hkk
   obtain ⟨A',c',hvv⟩:=own_form hown
   subst hvv
   have hcap1:=own_cap hown
   have hRd:=Rd.own hown
   have HJ:Hid (M.map Sq.s=P.map Sq.s):=Lib.hid (by rw[HM.out,List.take_length])
   have HE2:Hid (Ending.returned (.tuple #[.slice A' P.length c', .int .i64 0])=Ending.returned (.tuple #[.slice A' M.length c', .int .i64 0])):=Lib.hid (by rw[hMl])
   have hRl:Rl wr A' M:=by unfold Rl;rw[hMl];exact hRd
   have HMC:Hid (M.length≤c'):=Lib.hid (by rw[hMl];exact hcap1)
   clear hMl HM hAp hown hRd
   go_wp2
   go_ret2
   exact ⟨A',M,c',HE2.out,HJ.out,HMC.out,hRl,hLie,hgr⟩
theorem apply_none (nm text:ByteArray) (k:Vl) (A:Option Addr) (c:Nat) (L:List Sq) (w:World) (hf:(findF nm).isSome=true) (hok:okL L=true) (hk:isB k=false) (h1:1≤(rowF nm).kind) (h7:(rowF nm).kind≤7) (h20:L.length≤20) (hcap:L.length≤c) (hle:∀x∈L,x.s.vals.length≤1000000) (hr:Rl w A L) (hv:Lie w L) :
  Calls Tryz.prog 11 #[.string nm, .agg #[.bool k.ok, .int .i64 k.n], .string text, .slice A L.length c] w (RetA 0 ((pickA Sq.s (rowF nm) (normV k) L).map Sq.s) w):=by
 obtain ⟨i0,hi0,hz0,hz1,hz2⟩:=info_parts info_ser
 have hnk:normV k=⟨false,0⟩:=by unfold normV;rw[hk];rfl
 have QF:=fun w=>find_any nm w
 unfold RetFind aggFr at QF
 simp only[hf] at QF
 have QC:=fun w hr hv=>acons_any A c L w (by omega) hr hv
 simp only[hok,Bool.not_true] at QC
 have QI:=fun w=>is_any k.ok k.n w
 simp only[show isB ⟨k.ok,k.n⟩=false from hk] at QI
 have QD:=fun w hr hv=>does_any (rowF nm) ⟨false,0⟩ A c L w (by rfl) h20 hcap hle hr hv h1 h7
 unfold aggFr at QD
 rw[hnk]
 have hP1:=pickA_len Sq.s (rowF nm) ⟨false,0⟩ L
 have hP2:=pickA_mem Sq.s (rowF nm) ⟨false,0⟩ L
 generalize rowF nm=r at QF QD h1 h7 hP1 hP2 ⊢
 generalize pickA Sq.s r ⟨false,0⟩ L=P at QD hP1 hP2 ⊢
 have hP20:(P.length:Int)≤20:=by omega
 have hkz:(r.kind==0)=false:=beq_eq_false_iff_ne.2 (by omega)
 have hkz':r.kind≠0:=by omega
 have HP:Hid (∀x∈P,x.s.vals.length≤1000000∧Rv w x.A x.s.vals):=Lib.hid (fun x hx=>⟨hle x (hP2 x hx),hv x (hP2 x hx)⟩)
 clear hle hP2 hP1 hk hnk hok hf h1 h7 hcap
 have gb:Gr w ((w.alloc (.cells #[.string nm] 9)).alloc (.cells #[.bool k.ok, .int .i64 k.n] 25)):=Gr.alloc (Gr.alloc (Gr.refl _) _) _
 have hVA:VAt ((w.alloc (.cells #[.string nm] 9)).alloc (.cells #[.bool k.ok, .int .i64 k.n] 25)) (w.heap.size+1) k:=by
  refine ⟨?_,?_,?_⟩
  all_goals first|(go_simp;done)|(simp;done)
 have hF0:(((w.alloc (.cells #[.string nm] 9)).alloc (.cells #[.bool k.ok, .int .i64 k.n] 25))).frozen? ⟨w.heap.size+1,0,none⟩=false:=by go_simp
 have hF1:(((w.alloc (.cells #[.string nm] 9)).alloc (.cells #[.bool k.ok, .int .i64 k.n] 25))).frozen? ⟨w.heap.size+1,1,none⟩=false:=by go_simp
 go_enter Tryz.func11,Tryz.ntmps11
 go_wp2_with fail
 refine (QF _).mono ?_;rintro e w1 ⟨rfl,hg1⟩
 have hVA1:=hVA.gr hg1
 have gw1:=Gr.trans gb hg1
 have gR:Gr w1 (w1.alloc (.cells #[.string r.nm, .int .i64 r.kind, .int .i64 r.by_, .bool r.least] 46)):=Gr.alloc (Gr.refl _) _
 have hFA:FAt (w1.alloc (.cells #[.string r.nm, .int .i64 r.kind, .int .i64 r.by_, .bool r.least] 46)) w1.heap.size r:=by
  refine ⟨?_,?_,?_,?_,?_⟩
  all_goals first|(go_simp;done)|(simp;done)
 have hVA2:=hVA1.gr gR
 have f20:=(gR.frozen (p:=⟨w.heap.size+1,0,none⟩) hVA1.2.2).trans ((hg1.frozen (p:=⟨w.heap.size+1,0,none⟩) hVA.2.2).trans hF0)
 have f21:=(gR.frozen (p:=⟨w.heap.size+1,1,none⟩) hVA1.2.2).trans ((hg1.frozen (p:=⟨w.heap.size+1,1,none⟩) hVA.2.2).trans hF1)
 have gw2:=Gr.trans gw1 gR
 have zB:w.heap.size+1<w1.heap.size:=hVA1.2.2
 clear hVA hVA1 hg1 hF0 hF1 QF gb gR gw1
 go_wp2_with fail
 refine (QC _ (hr.gr gw2) (hv.gr gw2)).mono ?_;rintro e w3 ⟨rfl,hg3⟩
 have hVA3:=hVA2.gr hg3
 have hFA3:=hFA.gr hg3
 have f30:=(hg3.frozen (p:=⟨w.heap.size+1,0,none⟩) hVA2.2.2).trans f20
 have f31:=(hg3.frozen (p:=⟨w.heap.size+1,1,none⟩) hVA2.2.2).trans f21
 have gw3:=Gr.trans gw2 hg3
 clear hVA2 hFA f20 f21 gw2 hg3 QC
 obtain ⟨k30,k31,zk⟩:=id hVA3
 go_wp2_with fail
 refine (QI _).mono ?_;rintro e w4 ⟨rfl,hg4⟩
 have hVA4:=hVA3.gr hg4
 have hFA4:=hFA3.gr hg4
 have f40:=(hg4.frozen (p:=⟨w.heap.size+1,0,none⟩) zk).trans f30
 have f41:=(hg4.frozen (p:=⟨w.heap.size+1,1,none⟩) zk).trans f31
 have gw4:=Gr.trans gw3 hg4
 clear k30 k31 zk hVA3 hFA3 f30 f31 gw3 hg4 QI
 obtain ⟨k40,k41,zk⟩:=id hVA4
 obtain ⟨r0,r1,r2,r3,zr⟩:=id hFA4
 have gw:Gr w ((w4.setCell ⟨w.heap.size+1,0,none⟩ (.bool false)).setCell ⟨w.heap.size+1,1,none⟩ (.int .i64 0)):=Gr.setCell (Gr.setCell gw4 (Nat.le_succ _) _) (Nat.le_succ _) _
 have HG:=Lib.hid (And.intro (hr.gr gw) (hv.gr gw))
 go_wp2_with fail
 refine (QD _ HG.out.1 HG.out.2).mono ?_;rintro e wD ⟨AD,cD,rfl,hcD,hrD,hgD⟩
 clear k40 k41 zk r0 r1 r2 r3 zr hVA4 hFA4 f40 f41 gw4 QD HG
 have gD:=Gr.trans gw hgD
 clear hgD gw
 go_wp2
 go_loopw [15,51] (fun v i wr=>∃(j:Nat) (M:List Sq),j≤P.length∧i= .int .i64 j∧Gr w wr∧Gr wD wr∧wr.ownsRow wD.heap.size 34 5 v j (scells M)∧M.length=j∧Lie wr M∧Apart v.ownBlock M∧Hid (M.map Sq.s=(P.take j).map Sq.s)) (fun _ i _=>P.length-(intOf i).toNat)
 case atStart=>exact ⟨0,[],Nat.zero_le _,rfl,gD,Gr.refl _,World.ownsRow_nil _ _ _ _,rfl,fun x hx=>absurd hx (by simp),fun x hx=>absurd hx (by simp),Lib.hid rfl⟩
 case round=>
  obtain ⟨j,M,hj,rfl,hgr,hgD,hown,hMl,hLie,hAp,HM⟩:=hrel
  by_cases hlt:j<P.length
  ·
   obtain ⟨x,hx⟩:∃x,P[j]=x:=⟨_,rfl⟩
   obtain ⟨ad,rfl,hb,hx0,hx1,hx2,hx3,hx4⟩:=(hrD.gr hgD).at hlt
   have hmem:=HP.out _ (List.getElem_mem hlt)
   rw[hx] at hx0 hx1 hx2 hx3 hx4 hmem
   have hlx:=hmem.1
   have hvx:=hmem.2
   have QO:=fun w hr=>own_any x.s x.A x.c w hlx hr
   have HM2:Hid (∀y:Sq,y.s=x.s→(M++[y]).map Sq.s=(P.take (j+1)).map Sq.s):=Lib.hid (fun y hy=>by
    rw[List.take_succ_eq_append_getElem hlt,List.map_append,List.map_append,HM.out,hx]
    simp[hy])
   clear hx hlx hmem HM
   go_wp2_with fail
   refine (QO _ ((hvx.gr hgr).gr (Gr.alloc (Gr.refl _) _))).mono ?_;rintro e' w5 ⟨A5,c5,rfl,hr5,hg5,hnew⟩
   have hbox:=Gr.trans (Gr.alloc (Gr.refl wr) _) hg5
   have hown5:=own_gr hown hbox
   have gw5:=Gr.trans hgr hbox
   have gD5:=Gr.trans hgD hbox
   have hLie5:=hLie.gr hbox
   have hrx:=Rl.new (W:=w5) rfl 34 [⟨x.s,A5,c5⟩]
   have hv0:=hown5.alloc (.cells (scells [⟨x.s,A5,c5⟩]).toArray 34)
   have hvl:=hown5.lt
   have z5:=gw5.size
   have z6:=gD5.size
   have z7:=gD.size
   have HNW:=Lib.hid (fun (ad:Addr) (h:A5=some ad)=>new_apart hown (ad:=ad) (by have h1:=hnew ad h;simp at h1;omega))
   clear hnew hg5 hx0 hx1 hx2 hx3 hx4
   go_wp2_with
    (
     at_builtin
     refine wpList_append_rd rfl (.tmp 55) (.tmp 58) 22 rfl wD.heap.size 34 i0 _ 5 64 Tryz.underlying22 hi0 hz0 hz1 hz2 rfl (by decide) _ j _ rfl hv0 (some ⟨w5.heap.size,0,none⟩) 1 _ (scells [⟨x.s,A5,c5⟩]) rfl hrx (scells_one _) (by unfold maxLen;omega) (by omega) (by simp;omega) ?_
     intro v' w7 hown7 hgr7 hat7)
   have hg7:Gr w w7:=Gr.grown (Gr.alloc gw5 _) hgr7 (fun j hj=>by have:=(hvl j hj).1;omega)
   have hgD7:Gr wD w7:=Gr.grown (Gr.alloc gD5 _) hgr7 (fun j hj=>(hvl j hj).1)
   have hLie7:Lie w7 (M++[⟨x.s,A5,c5⟩]):=fun y hy=>by
    rcases List.mem_append.1 hy with hy|hy
    ·
     exact Rv.grown ((hLie5 y hy).gr (Gr.alloc (Gr.refl w5) _)) hgr7 (fun hn ad h=>hAp y hy hn ad h)
    ·
     rw[List.mem_singleton.1 hy]
     exact Rv.grown (hr5.gr (Gr.alloc (Gr.refl w5) _)) hgr7 (fun _ ad h=>HNW.out ad h)
   have hAp7:Apart v'.ownBlock (M++[⟨x.s,A5,c5⟩]):=fun y hy hn ad h=>by
    rcases hat7 with e7|e7
    ·
     rw[e7]
     rcases List.mem_append.1 hy with hy|hy
     ·
      exact hAp y hy hn ad h
     ·
      rw[List.mem_singleton.1 hy] at h;exact HNW.out ad h
    ·
     rw[e7]
     intro e8
     injection e8 with e8
     simp at e8
     rcases List.mem_append.1 hy with hy|hy
     ·
      have:=(hLie5 y hy).blk hn h;omega
     ·
      rw[List.mem_singleton.1 hy] at h hn
      have:=hr5.blk hn h;omega
   have hown8:w7.ownsRow wD.heap.size 34 5 v' (j+1) (scells (M++[⟨x.s,A5,c5⟩])):=by rw[scells_append];exact hown7
   have HM3:=Lib.hid (HM2.out ⟨x.s,A5,c5⟩ rfl)
   clear hv0 hvl hgr7 hat7 hrx hown5 hown7 hown hLie hLie5 hAp hr5 hbox HM2
   go_roundw
   case rel=>exact ⟨j+1,M++[⟨x.s,A5,c5⟩],by omega,by go_num,hg7,hgD7,hown8,by simp[hMl],hLie7,hAp7,HM3⟩
   case measure=>simp[intOf];omega
  ·
   have hkk:j=P.length:=by omega
   subst hkk
   obtain ⟨A',c',hvv⟩:=own_form hown
   subst hvv
   have hcap1:=own_cap hown
   have hRd:=Rd.own hown
   have HJ:Hid (M.map Sq.s=P.map Sq.s):=Lib.hid (by rw[HM.out,List.take_length])
   have HE2:Hid (Ending.returned (.tuple #[.slice A' P.length c', .int .i64 0])=Ending.returned (.tuple #[.slice A' M.length c', .int .i64 0])):=Lib.hid (by rw[hMl])
   have hRl:Rl wr A' M:=by unfold Rl;rw[hMl];exact hRd
   have HMC:Hid (M.length≤c'):=Lib.hid (by rw[hMl];exact hcap1)
   clear hMl HM hAp hown hRd
   go_wp2
   go_ret2
   exact ⟨A',M,c',HE2.out,HJ.out,HMC.out,hRl,hLie,hgr⟩
def applyE (nm:ByteArray) (S:List Sr):Int:=if (findF nm).isSome=true then (if S.all isS=true then 0 else 1) else 9
def applyS (nm:ByteArray) (k:Vl) (S:List Sr):List Sr:=if applyE nm S=0 then pickA id (rowF nm) (normV k) S else []
theorem pick_s (r:Fr) (k:Vl) (L:List Sq):(pickA Sq.s r k L).map Sq.s=pickA id r k (L.map Sq.s):=pickA_map Sq.s id r k L
theorem okL_s (L:List Sq):(L.map Sq.s).all isS=okL L:=(okL_all L).symm
theorem apply_any (nm text:ByteArray) (k:Vl) (A:Option Addr) (c:Nat) (L:List Sq) (w:World) (h1:(findF nm).isSome=true→1≤(rowF nm).kind∧(rowF nm).kind≤7) (h20:L.length≤20) (hcap:L.length≤c) (hle:∀x∈L,x.s.vals.length≤1000000) (hr:Rl w A L) (hv:Lie w L) :
  Calls Tryz.prog 11 #[.string nm, .agg #[.bool k.ok, .int .i64 k.n], .string text, .slice A L.length c] w (RetA (applyE nm (L.map Sq.s)) (applyS nm k (L.map Sq.s)) w):=by
 cases hf:(findF nm).isSome
 ·
  rw[show applyE nm (L.map Sq.s)=9 by unfold applyE;rw[hf];rfl,show applyS nm k (L.map Sq.s)=[] by unfold applyS applyE;rw[hf];rfl]
  exact apply_no nm text k A c L w hf
 ·
  cases hok:okL L
  ·
   have hE:applyE nm (L.map Sq.s)=1:=by unfold applyE;rw[hf,okL_s,hok];rfl
   rw[show applyS nm k (L.map Sq.s)=[] by unfold applyS;rw[hE];rfl,hE]
   exact apply_bad nm text k A c L w hf hok h20 hr hv
  ·
   have hE:applyE nm (L.map Sq.s)=0:=by unfold applyE;rw[hf,okL_s,hok];rfl
   rw[show applyS nm k (L.map Sq.s)=(pickA Sq.s (rowF nm) (normV k) L).map Sq.s by unfold applyS;rw[hE,pick_s];rfl,hE]
   cases hk:isB k
   ·
    exact apply_none nm text k A c L w hf hok hk (h1 hf).1 (h1 hf).2 h20 hcap hle hr hv
   ·
    exact apply_yes nm text k A c L w hf hok hk (h1 hf).1 (h1 hf).2 h20 hcap hle hr hv
end Go.Proofs.YtnphdacibageiaaGreat
