import Derived.Test.YtnphdacibageiaaGreatRunFpSorted
import Derived.Test.YtnphdacibageiaaGreatRunFpRow
import Derived.Deep.Cut
import Derived.Deep.CutRange
import Derived.WalkKit
import Derived.Test.YtnphdacibageiaaGreatRunSrFitB
import Derived.Test.YtnphdacibageiaaGreatRunFxBase
import Derived.Lib.Hide
import Derived.Test.YtnphdacibageiaaGreatProg
set_option linter.all false
set_option maxRecDepth 1000000
set_option maxHeartbeats 12800000
namespace Go.Proofs.YtnphdacibageiaaGreat
open Go.RowKit
theorem heavy23_any (A:Option Addr) (c:Nat) (L:List Sq) (w:World) (hr:Rl w A L) :
  Calls Tryz.prog 9 #[.slice A L.length c] w (RetH L w):=by
 by_cases h20:(20:Int)<(L.length:Int)
 ·
  go_enter Tryz.func9,Tryz.ntmps9
  go_wp2
  go_ret
  exact ⟨⟨_,rfl,fun h=>by cases h⟩,Gr.refl _⟩
 go_enter Tryz.func9,Tryz.ntmps9
 go_wp2
 go_loopw [3,4] (fun n i wr=>∃(k:Nat) (S:Int),k≤L.length∧i= .int .i64 k∧n= .int .i64 S∧0≤S∧S≤120*k∧Gr w wr∧Hid (∀j (hj:j<L.length),j<k→(L[j].s.vals.length:Int)≤120∧(L[j].s.name.size:Int)≤300)) (fun _ i _=>L.length-(intOf i).toNat)
 case atStart=>exact ⟨0,0,Nat.zero_le _,rfl,rfl,by omega,by omega,Gr.refl _,Lib.hid (fun j _ h=>absurd h (Nat.not_lt_zero _))⟩
 case round=>
  obtain ⟨k,S,hk,rfl,rfl,S0,S1,hgr,hall⟩:=hrel
  by_cases hlt:k<L.length
  ·
   obtain ⟨ad,rfl,hb,c0,c1,c2,c3,c4⟩:=(hr.gr hgr).at hlt
   by_cases h120:(L[k].s.vals.length:Int)≤120
   ·
    by_cases h300:(L[k].s.name.size:Int)≤300
    ·
     have Ht:=Lib.hid (light_at hlt hall.out h120 h300)
     go_wp2
     go_roundw
     case rel=>exact ⟨k+1,_,by omega,by go_num,rfl,by omega,by omega,hgr,Ht⟩
     case measure=>simp[intOf];omega
    ·
     go_wp2
     go_ret
     exact ⟨⟨_,rfl,fun h=>by cases h⟩,hgr⟩
   ·
    go_wp2
    go_ret
    exact ⟨⟨_,rfl,fun h=>by cases h⟩,hgr⟩
  ·
   have hkk:k=L.length:=by omega
   subst hkk
   have HL:Hid (Light L):=Lib.hid ⟨by omega,fun x hx=>by obtain ⟨j,hj,rfl⟩:=List.getElem_of_mem hx;exact hall.out j hj hj⟩
   clear hall
   by_cases h400:(400:Int)<S
   ·
    go_wp2
    go_ret
    exact ⟨⟨_,rfl,fun _=>HL.out⟩,hgr⟩
   ·
    go_wp2
    go_ret
    exact ⟨⟨_,rfl,fun _=>HL.out⟩,hgr⟩
theorem lsame23_any (na nb:ByteArray) (sa sb pa pb ka kb:Int) (l m:List Vl) (A A':Option Addr) (c c':Nat) (w:World) (hl:l.length≤1000000) (hm:m.length≤1000000) (hr:Rv w A l) (hr':Rv w A' m) :
  Calls Tryz.prog 38 #[.agg #[.string na, .int .i64 sa, .int .i64 pa, .slice A l.length c, .int .i64 ka],(.agg #[.string nb, .int .i64 sb, .int .i64 pb, .slice A' m.length c', .int .i64 kb])] w (RetB ((⟨na,sa,pa,l,ka⟩:Sr)=⟨nb,sb,pb,m,kb⟩) w):=by
 have hl1:(l.length:Int)≤1000000:=by omega
 have hm1:(m.length:Int)≤1000000:=by omega
 go_enter Tryz.func38,Tryz.ntmps38
 go_wp2_with fail
 refine (rsame_any na nb sa sb pa pb ka kb l m A A' c c' _ hl hm ?hr ?hr').mono ?_
 case hr=>exact hr.gr gq
 case hr'=>exact hr'.gr gq
 rintro e w1 ⟨⟨b,rfl,hb⟩,hg⟩
 have Hb:=Lib.hid hb;clear hb
 go_wp2
 go_ret
 exact ⟨⟨_,rfl,Hb.out⟩,gq⟩
theorem same23_self (T:Sr) (A A':Option Addr) (c c':Nat) (w:World) (hl:T.vals.length≤1000000) (hr:Rv w A T.vals) (hr':Rv w A' T.vals) :
  Calls Tryz.prog 38 #[.agg #[.string T.name, .int .i64 T.start, .int .i64 T.step, .slice A T.vals.length c, .int .i64 T.cons], .agg #[.string T.name, .int .i64 T.start, .int .i64 T.step, .slice A' T.vals.length c', .int .i64 T.cons]] w fun e w'=>e= .returned (.bool true)∧Gr w w':=
 (lsame23_any T.name T.name T.start T.start T.step T.step T.cons T.cons T.vals T.vals A A' c c' w hl hl hr hr').mono (fun e w' ⟨⟨b,he,hb⟩,hg⟩=>⟨by rw[he,hb.2 rfl],hg⟩)
theorem all23_any (A A':Option Addr) (c c':Nat) (M N:List Sq) (w:World) (hl:(M.length:Int)≤1000) (hMN:M.map Sq.s=N.map Sq.s) (hle:∀x∈M,x.s.vals.length≤1000000) (hr:Rl w A M) (hr':Rl w A' N) (hv:Lie w M) (hv':Lie w N) :
  Calls Tryz.prog 15 #[.slice A M.length c, .slice A' N.length c'] w fun e w'=>e= .returned (.bool true)∧Gr w w':=by
 have hlen:N.length=M.length:=by have:=congrArg List.length hMN;simpa using this.symm
 have HEQ:Hid (∀k (h:k<M.length) (h2:k<N.length),N[k].s=M[k].s):=Lib.hid (fun k h h2=>by
  have e1:(N.map Sq.s)[k]'(by simpa using h2)=(M.map Sq.s)[k]'(by simpa using h):=by simp only[hMN]
  simpa using e1)
 have HL:Hid (∀k,k<M.length→k<N.length):=Lib.hid (fun k h=>by rw[hlen];exact h)
 rw[hlen]
 clear hlen hMN
 go_enter Tryz.func15,Tryz.ntmps15
 go_wp2
 go_loopw [5] (fun i wr=>∃k:Nat,k≤M.length∧i= .int .i64 k∧Gr w wr) (fun i _=>M.length-(intOf i).toNat)
 case atStart=>exact ⟨0,Nat.zero_le _,rfl,Gr.refl _⟩
 case round=>
  obtain ⟨k,hk,rfl,hgr⟩:=hrel
  by_cases hlt:k<M.length
  ·
   have hlt':=HL.out k hlt
   obtain ⟨ad,rfl,hb,hx0,hx1,hx2,hx3,hx4⟩:=(hr.gr hgr).at hlt
   obtain ⟨ad',rfl,hb',hy0,hy1,hy2,hy3,hy4⟩:=(hr'.gr hgr).at hlt'
   have hs:=HEQ.out k hlt hlt'
   have hv1:=hv _ (List.getElem_mem hlt)
   have hv2:=hv' _ (List.getElem_mem hlt')
   have hTl:=hle _ (List.getElem_mem hlt)
   obtain ⟨x,hx⟩:∃x,M[k]=x:=⟨_,rfl⟩
   obtain ⟨y,hy⟩:∃y,N[k]=y:=⟨_,rfl⟩
   rw[hx] at hx0 hx1 hx2 hx3 hx4 hs hv1 hTl
   rw[hy] at hy0 hy1 hy2 hy3 hy4 hs hv2
   clear hx hy
   obtain ⟨T,A1,d1⟩:=x
   obtain ⟨T2,A2,d2⟩:=y
   simp only at hs hx0 hx1 hx2 hx3 hx4 hy0 hy1 hy2 hy3 hy4 hv1 hv2 hTl
   subst hs
   have HF:Hid (∀W,Gr wr W→W.cell? (ad.add (k*5))=some (.string T2.name)∧W.cell? ⟨(ad.add (k*5)).block,(ad.add (k*5)).off+1,none⟩=some (.int .i64 T2.start)∧W.cell? ⟨(ad.add (k*5)).block,(ad.add (k*5)).off+2,none⟩=some (.int .i64 T2.step)∧W.cell? ⟨(ad.add (k*5)).block,(ad.add (k*5)).off+3,none⟩=some (.slice A1 T2.vals.length d1)∧W.cell? ⟨(ad.add (k*5)).block,(ad.add (k*5)).off+4,none⟩=some (.int .i64 T2.cons)∧W.cell? (ad'.add (k*5))=some (.string T2.name)∧W.cell? ⟨(ad'.add (k*5)).block,(ad'.add (k*5)).off+1,none⟩=some (.int .i64 T2.start)∧W.cell? ⟨(ad'.add (k*5)).block,(ad'.add (k*5)).off+2,none⟩=some (.int .i64 T2.step)∧W.cell? ⟨(ad'.add (k*5)).block,(ad'.add (k*5)).off+3,none⟩=some (.slice A2 T2.vals.length d2)∧W.cell? ⟨(ad'.add (k*5)).block,(ad'.add (k*5)).off+4,none⟩=some (.int .i64 T2.cons)):=Lib.hid (fun W hW=>⟨(hW.cell (p:=ad.add (k*5)) (by rw[add_blk];exact hb)).trans hx0,(hW.cell (p:=⟨(ad.add (k*5)).block,(ad.add (k*5)).off+1,none⟩) (by show (ad.add (k*5)).block<_;rw[add_blk];exact hb)).trans hx1,(hW.cell (p:=⟨(ad.add (k*5)).block,(ad.add (k*5)).off+2,none⟩) (by show (ad.add (k*5)).block<_;rw[add_blk];exact hb)).trans hx2,(hW.cell (p:=⟨(ad.add (k*5)).block,(ad.add (k*5)).off+3,none⟩) (by show (ad.add (k*5)).block<_;rw[add_blk];exact hb)).trans hx3,(hW.cell (p:=⟨(ad.add (k*5)).block,(ad.add (k*5)).off+4,none⟩) (by show (ad.add (k*5)).block<_;rw[add_blk];exact hb)).trans hx4,(hW.cell (p:=ad'.add (k*5)) (by rw[add_blk];exact hb')).trans hy0,(hW.cell (p:=⟨(ad'.add (k*5)).block,(ad'.add (k*5)).off+1,none⟩) (by show (ad'.add (k*5)).block<_;rw[add_blk];exact hb')).trans hy1,(hW.cell (p:=⟨(ad'.add (k*5)).block,(ad'.add (k*5)).off+2,none⟩) (by show (ad'.add (k*5)).block<_;rw[add_blk];exact hb')).trans hy2,(hW.cell (p:=⟨(ad'.add (k*5)).block,(ad'.add (k*5)).off+3,none⟩) (by show (ad'.add (k*5)).block<_;rw[add_blk];exact hb')).trans hy3,(hW.cell (p:=⟨(ad'.add (k*5)).block,(ad'.add (k*5)).off+4,none⟩) (by show (ad'.add (k*5)).block<_;rw[add_blk];exact hb')).trans hy4⟩)
   clear hx0 hx1 hx2 hx3 hx4 hy0 hy1 hy2 hy3 hy4
   go_wp2
   refine region_Q (by kernel_rfl) (by kernel_rfl) ?_
   refine q_val (v:=?qv1) (by rfl) (fun W hW=>?qh1) ?qr1
   case qh1=>
     go_simp
     rfl
   simp only[Pu]
   refine q_val (v:=?qv2) (by rfl) (fun W hW=>?qh2) ?qr2
   case qh2=>
     go_simp
     rfl
   simp only[Pu]
   refine q_val (v:=?qv3) (by rfl) (fun W hW=>?qh3) ?qr3
   case qh3=>
     go_simp
     rfl
   simp only[Pu]
   refine q_val (v:=?qv4) (by rfl) (fun W hW=>?qh4) ?qr4
   case qh4=>
     obtain ⟨y0,y1,y2,y3,y4,z0,z1,z2,z3,z4⟩:=HF.out W hW
     go_simp
     rfl
   simp only[Pu]
   refine q_val (v:=?qv5) (by rfl) (fun W hW=>?qh5) ?qr5
   case qh5=>
     go_simp
     rfl
   simp only[Pu]
   refine q_val (v:=?qv6) (by rfl) (fun W hW=>?qh6) ?qr6
   case qh6=>
     go_simp
     rfl
   simp only[Pu]
   refine q_val (v:=?qv7) (by rfl) (fun W hW=>?qh7) ?qr7
   case qh7=>
     go_simp
     rfl
   simp only[Pu]
   refine q_val (v:=?qv8) (by rfl) (fun W hW=>?qh8) ?qr8
   case qh8=>
     obtain ⟨y0,y1,y2,y3,y4,z0,z1,z2,z3,z4⟩:=HF.out W hW
     go_simp
     rfl
   simp only[Pu]
   refine q_call (v:= .bool true) (f:=?qf9) (args:=?qa9) (by rfl) (fun W hW=>?qh9) (fun W hW=>?qc9) ?qr9
   case qh9=>go_simp;constructor<;>rfl
   case qc9=>exact (same23_self T2 A1 A2 d1 d2 W hTl ((hv1.gr hgr).gr hW) ((hv2.gr hgr).gr hW)).mono (fun e w' h=>⟨h.1,Gr.trans hW h.2⟩)
   simp only[Pu]
   refine q_val (v:=?qv10) (by rfl) (fun W hW=>?qh10) ?qr10
   case qh10=>
     go_simp
     rfl
   simp only[Pu]
   refine wpQuiet_nil ?_
   intro w6 hg6
   have gw6:=Gr.trans hgr hg6
   clear HF hg6
   go_wp2
   go_roundw
   case rel=>exact ⟨k+1,by omega,by go_num,gw6⟩
   case measure=>simp[intOf];omega
  ·
   have hkk:k=M.length:=by omega
   subst hkk
   go_wp2
   go_ret
   exact ⟨rfl,hgr⟩
def KnS (B:Nat) (xa xb:Sq) (W:World):Prop:=BAt W (B+1) xa∧BAt W (B+1+1+1) xb
theorem KnS.gr {B:Nat} {xa xb:Sq} {w w':World} (h:KnS B xa xb w) (g:Gr w w'):KnS B xa xb w':=⟨h.1.gr g,h.2.gr g⟩
theorem high_one:applyE ⟨#[104,105,103,104,101,115,116,77,97,120]⟩ [⟨⟨#[98]⟩,0,1,[⟨true,4⟩],0⟩,⟨⟨#[97]⟩,0,1,[⟨true,1⟩,⟨true,5⟩],0⟩]=0∧applyS ⟨#[104,105,103,104,101,115,116,77,97,120]⟩ (intV 1) [⟨⟨#[98]⟩,0,1,[⟨true,4⟩],0⟩,⟨⟨#[97]⟩,0,1,[⟨true,1⟩,⟨true,5⟩],0⟩]=[⟨⟨#[97]⟩,0,1,[⟨true,1⟩,⟨true,5⟩],0⟩]:=by
 constructor
 ·
  kernel_rfl
 ·
  kernel_rfl
theorem high_row:rowF ⟨#[104,105,103,104,101,115,116,77,97,120]⟩=R8:=by kernel_rfl
theorem high_kind:1≤(rowF ⟨#[104,105,103,104,101,115,116,77,97,120]⟩).kind∧(rowF ⟨#[104,105,103,104,101,115,116,77,97,120]⟩).kind≤7:=by
 rw[high_row];decide
theorem high_do:DoOk (rowF ⟨#[104,105,103,104,101,115,116,77,97,120]⟩) (intV 1):=by
 rw[high_row]
 exact fun A c L w h20 hcap hle hr hv=>does4_any _ _ _ (ofok_few (.inl rfl)) _ _ A c L w (by kernel_rfl) h20 hcap hle hr hv
theorem known23_any (w:World):Calls Tryz.prog 8 #[] w fun e w'=>e= .returned (.bool true)∧Gr w w':=by
 have gA:Gr w ((((w.alloc (.cells (vcells [⟨true,1⟩,⟨true,5⟩]).toArray 25)).alloc (.cells #[.string ⟨#[97]⟩, .int .i64 0, .int .i64 1, .slice (some ⟨w.heap.size,0,none⟩) 2 2, .int .i64 0] 34)).alloc (.cells (vcells [⟨true,4⟩]).toArray 25)).alloc (.cells #[.string ⟨#[98]⟩, .int .i64 0, .int .i64 1, .slice (some ⟨w.heap.size+1+1,0,none⟩) 1 1, .int .i64 0] 34)):=Gr.alloc (Gr.alloc (Gr.alloc (Gr.alloc (Gr.refl _) _) _) _) _
 have hA0:Rv (w.alloc (.cells (vcells [⟨true,1⟩,⟨true,5⟩]).toArray 25)) (some ⟨w.heap.size,0,none⟩) [⟨true,1⟩,⟨true,5⟩]:=Rv.new rfl _ _
 have hB0:Rv (((w.alloc (.cells (vcells [⟨true,1⟩,⟨true,5⟩]).toArray 25)).alloc (.cells #[.string ⟨#[97]⟩, .int .i64 0, .int .i64 1, .slice (some ⟨w.heap.size,0,none⟩) 2 2, .int .i64 0] 34)).alloc (.cells (vcells [⟨true,4⟩]).toArray 25)) (some ⟨w.heap.size+1+1,0,none⟩) [⟨true,4⟩]:=Rv.new (by simp) _ _
 have hLie:Lie ((((w.alloc (.cells (vcells [⟨true,1⟩,⟨true,5⟩]).toArray 25)).alloc (.cells #[.string ⟨#[97]⟩, .int .i64 0, .int .i64 1, .slice (some ⟨w.heap.size,0,none⟩) 2 2, .int .i64 0] 34)).alloc (.cells (vcells [⟨true,4⟩]).toArray 25)).alloc (.cells #[.string ⟨#[98]⟩, .int .i64 0, .int .i64 1, .slice (some ⟨w.heap.size+1+1,0,none⟩) 1 1, .int .i64 0] 34)) [(⟨⟨⟨#[98]⟩,0,1,[⟨true,4⟩],0⟩,some ⟨w.heap.size+1+1,0,none⟩,1⟩:Sq),(⟨⟨⟨#[97]⟩,0,1,[⟨true,1⟩,⟨true,5⟩],0⟩,some ⟨w.heap.size,0,none⟩,2⟩:Sq)]:=fun x hx=>by
  rcases List.mem_cons.1 hx with rfl|hx
  ·
   exact hB0.gr (Gr.alloc (Gr.refl _) _)
  ·
   rw[List.mem_singleton.1 hx]
   exact hA0.gr (Gr.alloc (Gr.alloc (Gr.alloc (Gr.refl _) _) _) _)
 have hKS:KnS w.heap.size (⟨⟨⟨#[97]⟩,0,1,[⟨true,1⟩,⟨true,5⟩],0⟩,some ⟨w.heap.size,0,none⟩,2⟩:Sq) (⟨⟨⟨#[98]⟩,0,1,[⟨true,4⟩],0⟩,some ⟨w.heap.size+1+1,0,none⟩,1⟩:Sq) ((((w.alloc (.cells (vcells [⟨true,1⟩,⟨true,5⟩]).toArray 25)).alloc (.cells #[.string ⟨#[97]⟩, .int .i64 0, .int .i64 1, .slice (some ⟨w.heap.size,0,none⟩) 2 2, .int .i64 0] 34)).alloc (.cells (vcells [⟨true,4⟩]).toArray 25)).alloc (.cells #[.string ⟨#[98]⟩, .int .i64 0, .int .i64 1, .slice (some ⟨w.heap.size+1+1,0,none⟩) 1 1, .int .i64 0] 34)):=by
  refine ⟨⟨?_,?_,?_,?_,?_,?_⟩,?_,?_,?_,?_,?_,?_⟩
  all_goals first|(go_simp;done)|(simp;done)|(simp;omega)
 have QA:=fun (B:Nat) (w':World) (hr:Rl w' (some ⟨B,0,none⟩) [(⟨⟨⟨#[98]⟩,0,1,[⟨true,4⟩],0⟩,some ⟨w.heap.size+1+1,0,none⟩,1⟩:Sq),(⟨⟨⟨#[97]⟩,0,1,[⟨true,1⟩,⟨true,5⟩],0⟩,some ⟨w.heap.size,0,none⟩,2⟩:Sq)]) (hv:Lie w' [(⟨⟨⟨#[98]⟩,0,1,[⟨true,4⟩],0⟩,some ⟨w.heap.size+1+1,0,none⟩,1⟩:Sq),(⟨⟨⟨#[97]⟩,0,1,[⟨true,1⟩,⟨true,5⟩],0⟩,some ⟨w.heap.size,0,none⟩,2⟩:Sq)])=>apply_ok ⟨#[104,105,103,104,101,115,116,77,97,120]⟩ ⟨#[]⟩ (intV 1) (some ⟨B,0,none⟩) 2 [(⟨⟨⟨#[98]⟩,0,1,[⟨true,4⟩],0⟩,some ⟨w.heap.size+1+1,0,none⟩,1⟩:Sq),(⟨⟨⟨#[97]⟩,0,1,[⟨true,1⟩,⟨true,5⟩],0⟩,some ⟨w.heap.size,0,none⟩,2⟩:Sq)] w' (by kernel_rfl) high_kind.1 (by kernel_rfl) high_do (by rfl) (by simp) (by simp) (fun x hx=>by
  rcases List.mem_cons.1 hx with rfl|hx
  ·
   simp
  ·
   rw[List.mem_singleton.1 hx];simp) hr hv
 have e0:applyE ⟨#[104,105,103,104,101,115,116,77,97,120]⟩ ([(⟨⟨⟨#[98]⟩,0,1,[⟨true,4⟩],0⟩,some ⟨w.heap.size+1+1,0,none⟩,1⟩:Sq),(⟨⟨⟨#[97]⟩,0,1,[⟨true,1⟩,⟨true,5⟩],0⟩,some ⟨w.heap.size,0,none⟩,2⟩:Sq)].map Sq.s)=0:=high_one.1
 have e1:applyS ⟨#[104,105,103,104,101,115,116,77,97,120]⟩ (intV 1) ([(⟨⟨⟨#[98]⟩,0,1,[⟨true,4⟩],0⟩,some ⟨w.heap.size+1+1,0,none⟩,1⟩:Sq),(⟨⟨⟨#[97]⟩,0,1,[⟨true,1⟩,⟨true,5⟩],0⟩,some ⟨w.heap.size,0,none⟩,2⟩:Sq)].map Sq.s)=[⟨⟨#[97]⟩,0,1,[⟨true,1⟩,⟨true,5⟩],0⟩]:=high_one.2
 rw[e0,e1] at QA
 clear e0 e1 hA0 hB0
 go_enter Tryz.func8,Tryz.ntmps8
 go_upto_region 3 with (fail)
 go_cut [3,4] from 13 to 20 (fun p q wx=>∃(AM:Option Addr) (M:List Sq) (cM:Nat),p= .slice AM M.length cM∧q= .int .i64 0∧M.map Sq.s=[⟨⟨#[97]⟩,0,1,[⟨true,1⟩,⟨true,5⟩],0⟩]∧Rl wx AM M∧Gr w wx)
 case first=>
  have hS0:KnS w.heap.size (⟨⟨⟨#[97]⟩,0,1,[⟨true,1⟩,⟨true,5⟩],0⟩,some ⟨w.heap.size,0,none⟩,2⟩:Sq) (⟨⟨⟨#[98]⟩,0,1,[⟨true,4⟩],0⟩,some ⟨w.heap.size+1+1,0,none⟩,1⟩:Sq) ((((w.alloc (.cells (vcells [⟨true,1⟩,⟨true,5⟩]).toArray 25)).alloc (.cells #[.string ⟨#[97]⟩, .int .i64 0, .int .i64 1, .slice (some ⟨w.heap.size,0,none⟩) 2 2, .int .i64 0] 34)).alloc (.cells (vcells [⟨true,4⟩]).toArray 25)).alloc (.cells #[.string ⟨#[98]⟩, .int .i64 0, .int .i64 1, .slice (some ⟨w.heap.size+1+1,0,none⟩) 1 1, .int .i64 0] 34)).drew:=hKS.gr (Gr.drew (Gr.refl _))
  have hLieV:=hLie.gr (Gr.drew (Gr.refl _))
  have gV:Gr w ((((w.alloc (.cells (vcells [⟨true,1⟩,⟨true,5⟩]).toArray 25)).alloc (.cells #[.string ⟨#[97]⟩, .int .i64 0, .int .i64 1, .slice (some ⟨w.heap.size,0,none⟩) 2 2, .int .i64 0] 34)).alloc (.cells (vcells [⟨true,4⟩]).toArray 25)).alloc (.cells #[.string ⟨#[98]⟩, .int .i64 0, .int .i64 1, .slice (some ⟨w.heap.size+1+1,0,none⟩) 1 1, .int .i64 0] 34)).drew:=Gr.drew gA
  obtain ⟨V,hV⟩:∃V,V=((((w.alloc (.cells (vcells [⟨true,1⟩,⟨true,5⟩]).toArray 25)).alloc (.cells #[.string ⟨#[97]⟩, .int .i64 0, .int .i64 1, .slice (some ⟨w.heap.size,0,none⟩) 2 2, .int .i64 0] 34)).alloc (.cells (vcells [⟨true,4⟩]).toArray 25)).alloc (.cells #[.string ⟨#[98]⟩, .int .i64 0, .int .i64 1, .slice (some ⟨w.heap.size+1+1,0,none⟩) 1 1, .int .i64 0] 34)).drew:=⟨_,rfl⟩
  refine wp_region_Z 9 (KnS w.heap.size (⟨⟨⟨#[97]⟩,0,1,[⟨true,1⟩,⟨true,5⟩],0⟩,some ⟨w.heap.size,0,none⟩,2⟩:Sq) (⟨⟨⟨#[98]⟩,0,1,[⟨true,4⟩],0⟩,some ⟨w.heap.size+1+1,0,none⟩,1⟩:Sq)) (by kernel_rfl) ?_
  have hV':V=((((w.alloc (.cells #[.bool true, .int .i64 1, .bool true, .int .i64 5] 25)).alloc (.cells #[.string ⟨#[97]⟩, .int .i64 0, .int .i64 1, .slice (some ⟨w.heap.size,0,none⟩) 2 2, .int .i64 0] 34)).alloc (.cells #[.bool true, .int .i64 4] 25)).alloc (.cells #[.string ⟨#[98]⟩, .int .i64 0, .int .i64 1, .slice (some ⟨w.heap.size+1+1,0,none⟩) 1 1, .int .i64 0] 34)).drew:=hV
  rw[←hV'] 
  rw[←hV] at hS0 hLieV gV
  have gr0:Gr V V:=Gr.refl V
  clear hV hV' hLie hKS gA
  refine zt 1 rfl hS0 (fun W hS=>by obtain ⟨⟨a0,a1,a2,a3,a4,a5⟩,b0,b1,b2,b3,b4,b5⟩:=hS;go_simp;rfl) ?_
  refine zt 2 rfl hS0 (fun W hS=>by obtain ⟨⟨a0,a1,a2,a3,a4,a5⟩,b0,b1,b2,b3,b4,b5⟩:=hS;go_simp;rfl) ?_
  refine wpAnyZ_ready (rs:=[0,3]) (by kernel_rfl) (by simp) ?_
  refine AllReadyZ.cons rfl (by rfl) (fun K hK=>?_) (AllReadyZ.cons rfl (by rfl) (fun K hK=>?_) AllReadyZ.nil)
  ·
   go_simp
   refine (rint_any 1 _).mono ?_;rintro e w501 ⟨rfl,hg503⟩
   have g502:=Gr.trans gr0 hg503
   have hS504:=KnS.gr hS0 hg503
   go_wp2_with fail
   refine hK.out _ _ (fun hnz=>?s3) (fun _=>?r3)
   case s3=>exact hS504
   clear hK K
   try simp only[Pu]
   refine zs 3 rfl (fun K hK=>?_)
   have hR507:=Rl.new (W:=w501) rfl 34 [(⟨⟨⟨#[98]⟩,0,1,[⟨true,4⟩],0⟩,some ⟨w.heap.size+1+1,0,none⟩,1⟩:Sq),(⟨⟨⟨#[97]⟩,0,1,[⟨true,1⟩,⟨true,5⟩],0⟩,some ⟨w.heap.size,0,none⟩,2⟩:Sq)]
   have g505:=Gr.alloc g502 (.cells (scells [(⟨⟨⟨#[98]⟩,0,1,[⟨true,4⟩],0⟩,some ⟨w.heap.size+1+1,0,none⟩,1⟩:Sq),(⟨⟨⟨#[97]⟩,0,1,[⟨true,1⟩,⟨true,5⟩],0⟩,some ⟨w.heap.size,0,none⟩,2⟩:Sq)]).toArray 34)
   have hS506:=KnS.gr hS504 (Gr.alloc (Gr.refl _) (.cells (scells [(⟨⟨⟨#[98]⟩,0,1,[⟨true,4⟩],0⟩,some ⟨w.heap.size+1+1,0,none⟩,1⟩:Sq),(⟨⟨⟨#[97]⟩,0,1,[⟨true,1⟩,⟨true,5⟩],0⟩,some ⟨w.heap.size,0,none⟩,2⟩:Sq)]).toArray 34))
   go_simp
   refine hK.out _ _ (fun hnz=>?s4) (fun _=>?r4)
   case s4=>exact hS506
   clear hK K
   try simp only[Pu]
   obtain ⟨V508,hV508⟩:∃V508,V508=w501.alloc (.cells (scells [(⟨⟨⟨#[98]⟩,0,1,[⟨true,4⟩],0⟩,some ⟨w.heap.size+1+1,0,none⟩,1⟩:Sq),(⟨⟨⟨#[97]⟩,0,1,[⟨true,1⟩,⟨true,5⟩],0⟩,some ⟨w.heap.size,0,none⟩,2⟩:Sq)]).toArray 34):=⟨_,rfl⟩
   have eV508:w501.alloc (.cells (#[.string ⟨#[98]⟩, .int .i64 0, .int .i64 1, .slice (some ⟨w.heap.size+1+1,0,none⟩) 1 1, .int .i64 0, .string ⟨#[97]⟩, .int .i64 0, .int .i64 1, .slice (some ⟨w.heap.size,0,none⟩) 2 2, .int .i64 0]) 34)=V508:=hV508.symm
   rw[←hV508] at g505 hS506 hR507
   rw[eV508]
   clear hV508 eV508
   refine zs 4 rfl (fun K hK=>?_)
   go_simp
   refine (QA _ _ hR507 (hLieV.gr g505)).mono ?_;rintro e w509 ⟨AM,M,cM,rfl,hM,_,hRM,_,hg512⟩
   have g510:=Gr.trans g505 hg512
   have hS511:=KnS.gr hS506 hg512
   go_wp2_with fail
   refine hK.out _ _ (fun hnz=>?s5) (fun _=>?r5)
   case s5=>exact hS511
   clear hK K
   try simp only[Pu]
   refine zt 5 rfl hS511 (fun W hS=>by go_simp;rfl) ?_
   refine zt 6 rfl hS511 (fun W hS=>by go_simp;rfl) ?_
   refine zt 7 rfl hS511 (fun W hS=>by go_simp;rfl) ?_
   refine zs 8 rfl (fun K hK=>?_)
   go_simp
   refine hK.out _ _ (fun hnz=>?s9) (fun _=>?r9)
   case s9=>exact hS511
   clear hK K
   try simp only[Pu]
   refine zs 9 rfl (fun K hK=>?_)
   go_simp
   refine hK.out _ _ (fun hnz=>?s10) (fun _=>?r10)
   case s10=>exact absurd rfl hnz
   clear hK K
   try simp only[Pu]
   refine wpAnyZ_done (by kernel_rfl) ?_ _
   go_wp2_with fail
   go_meet
   exact ⟨_,_,_,rfl,rfl,hM,hRM,Gr.trans gV g510⟩
  ·
   have hR515:=Rl.new (W:=V) rfl 34 [(⟨⟨⟨#[98]⟩,0,1,[⟨true,4⟩],0⟩,some ⟨w.heap.size+1+1,0,none⟩,1⟩:Sq),(⟨⟨⟨#[97]⟩,0,1,[⟨true,1⟩,⟨true,5⟩],0⟩,some ⟨w.heap.size,0,none⟩,2⟩:Sq)]
   have g513:=Gr.alloc gr0 (.cells (scells [(⟨⟨⟨#[98]⟩,0,1,[⟨true,4⟩],0⟩,some ⟨w.heap.size+1+1,0,none⟩,1⟩:Sq),(⟨⟨⟨#[97]⟩,0,1,[⟨true,1⟩,⟨true,5⟩],0⟩,some ⟨w.heap.size,0,none⟩,2⟩:Sq)]).toArray 34)
   have hS514:=KnS.gr hS0 (Gr.alloc (Gr.refl _) (.cells (scells [(⟨⟨⟨#[98]⟩,0,1,[⟨true,4⟩],0⟩,some ⟨w.heap.size+1+1,0,none⟩,1⟩:Sq),(⟨⟨⟨#[97]⟩,0,1,[⟨true,1⟩,⟨true,5⟩],0⟩,some ⟨w.heap.size,0,none⟩,2⟩:Sq)]).toArray 34))
   go_simp
   refine hK.out _ _ (fun hnz=>?s11) (fun _=>?r11)
   case s11=>exact hS514
   clear hK K
   try simp only[Pu]
   obtain ⟨V516,hV516⟩:∃V516,V516=V.alloc (.cells (scells [(⟨⟨⟨#[98]⟩,0,1,[⟨true,4⟩],0⟩,some ⟨w.heap.size+1+1,0,none⟩,1⟩:Sq),(⟨⟨⟨#[97]⟩,0,1,[⟨true,1⟩,⟨true,5⟩],0⟩,some ⟨w.heap.size,0,none⟩,2⟩:Sq)]).toArray 34):=⟨_,rfl⟩
   have eV516:V.alloc (.cells (#[.string ⟨#[98]⟩, .int .i64 0, .int .i64 1, .slice (some ⟨w.heap.size+1+1,0,none⟩) 1 1, .int .i64 0, .string ⟨#[97]⟩, .int .i64 0, .int .i64 1, .slice (some ⟨w.heap.size,0,none⟩) 2 2, .int .i64 0]) 34)=V516:=hV516.symm
   rw[←hV516] at g513 hS514 hR515
   rw[eV516]
   clear hV516 eV516
   refine zs 0 rfl (fun K hK=>?_)
   go_simp
   refine (rint_any 1 _).mono ?_;rintro e w517 ⟨rfl,hg519⟩
   have g518:=Gr.trans g513 hg519
   have hS520:=KnS.gr hS514 hg519
   have hR521:=hR515.gr hg519
   go_wp2_with fail
   refine hK.out _ _ (fun hnz=>?s12) (fun _=>?r12)
   case s12=>exact hS520
   clear hK K
   try simp only[Pu]
   refine zs 4 rfl (fun K hK=>?_)
   go_simp
   refine (QA _ _ hR521 (hLieV.gr g518)).mono ?_;rintro e w522 ⟨AM,M,cM,rfl,hM,_,hRM,_,hg525⟩
   have g523:=Gr.trans g518 hg525
   have hS524:=KnS.gr hS520 hg525
   go_wp2_with fail
   refine hK.out _ _ (fun hnz=>?s13) (fun _=>?r13)
   case s13=>exact hS524
   clear hK K
   try simp only[Pu]
   refine zt 5 rfl hS524 (fun W hS=>by go_simp;rfl) ?_
   refine zt 6 rfl hS524 (fun W hS=>by go_simp;rfl) ?_
   refine zt 7 rfl hS524 (fun W hS=>by go_simp;rfl) ?_
   refine zs 8 rfl (fun K hK=>?_)
   go_simp
   refine hK.out _ _ (fun hnz=>?s17) (fun _=>?r17)
   case s17=>exact hS524
   clear hK K
   try simp only[Pu]
   refine zs 9 rfl (fun K hK=>?_)
   go_simp
   refine hK.out _ _ (fun hnz=>?s18) (fun _=>?r18)
   case s18=>exact absurd rfl hnz
   clear hK K
   try simp only[Pu]
   refine wpAnyZ_done (by kernel_rfl) ?_ _
   go_wp2_with fail
   go_meet
   exact ⟨_,_,_,rfl,rfl,hM,hRM,Gr.trans gV g523⟩
 case rest=>
 obtain ⟨AM,M,cM,rfl,rfl,hM,hR,gw⟩:=hcut
 clear QA hLie hKS gA
 obtain ⟨y,rfl⟩:∃y,M=[y]:=by
  have h1:M.length=1:=by have:=congrArg List.length hM;simpa using this
  exact List.length_eq_one_iff.1 h1
 obtain ⟨ys,yA,yc⟩:=y
 have hy:ys=⟨⟨#[97]⟩,0,1,[⟨true,1⟩,⟨true,5⟩],0⟩:=by simpa using hM
 subst hy
 obtain ⟨ad,rfl,hb,m0,m1,m2,m3,m4⟩:=hR.at (k:=0) (by simp)
 rw[show ad.add (0*5)=ad by simp[Addr.add]] at m0 m1 m2 m3 m4
 simp only[List.getElem_cons_zero] at m0 m1 m2 m3 m4
 clear hM hR m1 m2 m3 m4
 go_wp2
 go_ret
 exact ⟨rfl,gw⟩
abbrev Bs:=Nat→Bool
def oneB (c:Nat):Bs:=fun i=>i==c
def runB (a b:Nat):Bs:=fun i=>Nat.ble a i&&Nat.ble i b
def orB (f g:Bs):Bs:=fun i=>f i||g i
def notB (f:Bs):Bs:=fun i=> !f i
def noB:Bs:=fun _=>false
def digB:Bs:=runB 48 57
def wordB:Bs:=orB (orB (orB digB (runB 97 122)) (runB 65 90)) (runB 95 95)
def spB:Bs:=orB (runB 9 13) (runB 32 32)
def namedB (c:Nat):Option Bs:=
 bif c==100 then some digB else bif c==68 then some (notB digB) else
 bif c==119 then some wordB else bif c==87 then some (notB wordB) else
 bif c==115 then some spB else bif c==83 then some (notB spB) else none
def isWordB (c:Nat):Bool:=wordB c && !(c==95)
def pairsT (f:Bs):Nat→List UInt8
 | 0=>[]
 | k+1=>pairsT f k++((bif f k&&(k==0 || !f (k-1)) then [UInt8.ofNat k] else [])++(bif f k&&(k==255 || !f (k+1)) then [UInt8.ofNat k] else []))
def pairsS (f:Bs):List UInt8:=pairsT f 256
structure In where
 op:Int
 x:Int
 y:Int
 ps:List UInt8
deriving DecidableEq
mutual
inductive Pc where
 | leaf (op:Nat) (ps:List UInt8):Pc
 | row (l:PcL):Pc
 | ways (l:PcL):Pc
 | group (g:Nat) (k:Pc):Pc
 | rep (op:Nat) (lazy_:Bool) (k:Pc):Pc
inductive PcL where
 | nil:PcL
 | cons (p:Pc) (l:PcL):PcL
end
def PcL.toList:PcL→List Pc
 | .nil=>[]
 | .cons p l=>p::l.toList
def PcL.ofList:List Pc→PcL
 | []=> .nil
 | p::l=> .cons p (.ofList l)
mutual
def Pc.sz:Pc→Nat
 | .leaf _ _=>1
 | .row l=>l.szR
 | .ways l=>l.szW
 | .group g k=>bif g==0 then k.sz else k.sz+2
 | .rep op _ k=>bif op==42 then k.sz+2 else k.sz+1
def PcL.szR:PcL→Nat
 | .nil=>0
 | .cons p l=>p.sz+l.szR
def PcL.szW:PcL→Nat
 | .nil=>0
 | .cons p .nil=>p.sz
 | .cons p (.cons q l)=>p.sz+2+(PcL.cons q l).szW
end
def splitI (z:Bool) (x y:Int):In:=bif z then ⟨2,y,x,[]⟩ else ⟨2,x,y,[]⟩
mutual
def Pc.lay:Pc→Nat→List In
 | .leaf op ps,_=>[⟨op,0,0,ps⟩]
 | .row l,at_=>l.layR at_
 | .ways l,at_=>l.layW at_ (at_+l.szW)
 | .group g k,at_=>bif g==0 then k.lay at_ else ⟨4,2*g,0,[]⟩::(k.lay (at_+1)++[⟨4,2*g+1,0,[]⟩])
 | .rep op z k,at_=>
  bif op==42 then splitI z (at_+1) (at_+k.sz+2)::(k.lay (at_+1)++[⟨3,at_,0,[]⟩])
  else bif op==43 then k.lay at_++[splitI z at_ (at_+k.sz+1)]
  else splitI z (at_+1) (at_+k.sz+1)::k.lay (at_+1)
def PcL.layR:PcL→Nat→List In
 | .nil,_=>[]
 | .cons p l,at_=>p.lay at_++l.layR (at_+p.sz)
def PcL.layW:PcL→Nat→Nat→List In
 | .nil,_,_=>[]
 | .cons p .nil,at_,_=>p.lay at_
 | .cons p (.cons q l),at_,e=>⟨2,at_+1,at_+p.sz+2,[]⟩::(p.lay (at_+1)++(⟨3,e,0,[]⟩::(PcL.cons q l).layW (at_+p.sz+2) e))
end
structure Rs where
 rest:List UInt8
 groups:Nat
 deep:Nat
 bad:Bool
 over:Bool
def headIs (c:Nat):List UInt8→Bool
 | []=>false
 | x::_=>x.toNat==c
def escS:List UInt8→Option Bs×List UInt8
 | []=>(none,[])
 | c::r=>match namedB c.toNat with
  | some f=>(some f,r)
  | none=>(bif isWordB c.toNat then none else some (oneB c.toNat),r)
def isNamed (c:Nat):Bool:=(namedB c).isSome
def sideS:List UInt8→Option (Bs×Nat×Bool)×List UInt8
 | []=>(none,[])
 | c::r=>bif c.toNat==92 then (match r with
   | []=>(none,[])
   | d::q=>match escS (d::q) with
    | (some f,_)=>(some (f,d.toNat,isNamed d.toNat),q)
    | (none,_)=>(none,q))
  else (some (oneB c.toNat,c.toNat,false),r)
def rangesS:List UInt8→Bool
 | h::d::r=>h.toNat==45 && !(d.toNat==93)&&(!(d.toNat==92)||(match r with|[]=>true|e::_=> !isNamed e.toNat))
 | _=>false
def clsS:Nat→Bool→Bs→List UInt8→Option Bs×List UInt8
 | 0,_,_,r=>(none,r)
 | k+1,first,all,r=>
  bif first || !headIs 93 r then
   match sideS r with
   | (none,q)=>(none,q)
   | (some (f,a,wide),q)=>
    bif !wide&&rangesS q then
     match sideS (q.drop 1) with
     | (none,t)=>(none,t)
     | (some (_,b,_),t)=>bif Nat.blt b a then (none,t) else clsS k false (orB all (orB f (runB a b))) t
    else clsS k false (orB all f) q
  else (some all,r.drop 1)
def classS (r:List UInt8):Option Bs×List UInt8:=
 bif headIs 94 r then (match clsS r.length true noB (r.drop 1) with|(some f,q)=>(some (notB f),q)|(none,q)=>(none,q))
 else clsS (r.length+1) true noB r
def failS (s:Rs):Pc×Rs:=(.row .nil,{s with bad:=true})
def setS (s:Rs) (x:Option Bs×List UInt8):Pc×Rs:=
 match x with
 | (some f,q)=>(.leaf 1 (pairsS f),{s with rest:=q})
 | (none,q)=>failS {s with rest:=q}
def openS (s:Rs):Nat×Rs:=
 bif headIs 63 s.rest&&headIs 58 (s.rest.drop 1) then (0,{s with rest:=s.rest.drop 2}) else (s.groups+1,{s with groups:=s.groups+1})
def groupS (W:Rs→Pc×Rs) (s:Rs):Pc×Rs:=
 bif Nat.ble 64 s.deep then failS {s with deep:=s.deep+1,over:=true}
 else
  let r:=W (openS {s with deep:=s.deep+1}).2
  bif r.2.bad || !headIs 41 r.2.rest then failS r.2
  else (.group (openS {s with deep:=s.deep+1}).1 r.1,{r.2 with rest:=r.2.rest.drop 1,deep:=r.2.deep-1})
def stopC (c:Nat):Bool:=c==124||(c==63||(c==42||(c==43||c==41)))
def atomS (W:Rs→Pc×Rs) (s:Rs):Pc×Rs:=
 match s.rest with
 | []=>failS s
 | c::r=>
  bif c.toNat==40 then groupS W {s with rest:=r}
  else bif c.toNat==94 then (.leaf 5 [],{s with rest:=r})
  else bif c.toNat==36 then (.leaf 6 [],{s with rest:=r})
  else bif c.toNat==46 then (.leaf 1 (pairsS (notB (oneB 10))),{s with rest:=r})
  else bif c.toNat==91 then setS s (classS r)
  else bif c.toNat==92 then setS s (escS r)
  else bif stopC c.toNat then failS {s with rest:=r}
  else (.leaf 1 (pairsS (oneB c.toNat)),{s with rest:=r})
def repC (c:Nat):Bool:=c==42||(c==43||c==63)
def pieceS (W:Rs→Pc×Rs) (s:Rs):Pc×Rs:=
 let r:=atomS W s
 bif r.2.bad then r else
 match r.2.rest with
 | []=>r
 | c::q=>bif repC c.toNat then (.rep c.toNat (headIs 63 q) r.1,{r.2 with rest:=bif headIs 63 q then q.drop 1 else q}) else r
def endR (r:List UInt8):Bool:=match r with|[]=>true|c::_=>c.toNat==124||c.toNat==41
def rowS (W:Rs→Pc×Rs):Nat→Rs→PcL×Rs
 | 0,s=>(.nil,s)
 | k+1,s=>bif s.bad||endR s.rest then (.nil,s) else
  let r:=pieceS W s
  let q:=rowS W k r.2
  (.cons r.1 q.1,q.2)
def rowP (W:Rs→Pc×Rs) (s:Rs):Pc×Rs:=(.row (rowS W (s.rest.length+1) s).1,(rowS W (s.rest.length+1) s).2)
def altS (W:Rs→Pc×Rs):Nat→Rs→PcL×Rs
 | 0,s=>(.nil,s)
 | k+1,s=>
  let r:=rowP W s
  bif !r.2.bad&&headIs 124 r.2.rest then
   let q:=altS W k {r.2 with rest:=r.2.rest.drop 1}
   (.cons r.1 q.1,q.2)
  else (.cons r.1 .nil,r.2)
def lone:PcL→Pc
 | .cons p .nil=>p
 | l=> .ways l
def waysS:Nat→Rs→Pc×Rs
 | 0,s=>failS s
 | n+1,s=>(lone (altS (waysS n) (s.rest.length+1) s).1,(altS (waysS n) (s.rest.length+1) s).2)
def readS (s:List UInt8):Pc×Rs:=waysS (s.length+1) ⟨s,0,0,false,false⟩
def errX (s:List UInt8):Int:=
 bif (readS s).2.over then 12 else bif (readS s).2.bad || !(readS s).2.rest.isEmpty then 8 else 0
def codeX (s:List UInt8):List In:=⟨4,0,0,[]⟩::((readS s).1.lay 1++[⟨4,1,0,[]⟩,⟨7,0,0,[]⟩])

def bsA (f:Bs):Array Value:=((List.range 256).map fun i=>Value.bool (f i)).toArray
theorem bsA_size (f:Bs):(bsA f).size=256:=by simp[bsA]
theorem bsA_at (f:Bs) {i:Nat} (h:i<256):(bsA f)[i]?=some (.bool (f i)):=by simp[bsA,h]
theorem bsA_eq {f g:Bs} (h:∀i,i<256→f i=g i):bsA f=bsA g:=by
 unfold bsA
 congr 1
 apply List.map_congr_left
 intro i hi
 rw[h i (by simpa using hi)]
theorem bsA_set (f:Bs) (c:Nat) (b:Bool):(bsA f).setIfInBounds c (.bool b)=bsA (fun i=>bif i==c then b else f i):=by
 apply Array.ext
 ·
  simp[bsA]
 ·
  intro i h1 h2
  simp only[bsA_size,Array.size_setIfInBounds] at h1 h2
  rw[Array.getElem_setIfInBounds]
  ·
   simp only[bsA,List.getElem_toArray,List.getElem_map,List.getElem_range]
   by_cases h:i=c
   ·
    subst h;simp
   ·
    have:(i==c)=false:=by simpa using h
    simp[this,Ne.symm h]
  ·
   rw[bsA_size];exact h1
def icells (l:List In):List Value:=l.flatMap fun v=>[.int .i64 v.op, .int .i64 v.x, .int .i64 v.y, .string ⟨v.ps.toArray⟩]
theorem icells_cons (v:In) (l:List In):icells (v::l)= .int .i64 v.op :: .int .i64 v.x :: .int .i64 v.y :: .string ⟨v.ps.toArray⟩::icells l:=rfl
theorem icells_append (l m:List In):icells (l++m)=icells l++icells m:=by simp[icells]
theorem icells_length (l:List In):(icells l).length=l.length*4:=by
 induction l with
 | nil=>rfl
 | cons v l ih=>rw[icells_cons];simp only[List.length_cons,ih];omega
theorem icells_one (l:List In):∀u∈icells l,u.oneCell'=true:=by
 intro u hu
 simp only[icells,List.mem_flatMap] at hu
 obtain ⟨v,_,hv⟩:=hu
 simp at hv
 rcases hv with rfl|rfl|rfl|rfl<;>rfl
theorem icells_at (l:List In):∀(k:Nat) (h:k<l.length),(icells l)[k*4]?=some (.int .i64 l[k].op)∧(icells l)[k*4+1]?=some (.int .i64 l[k].x)∧(icells l)[k*4+2]?=some (.int .i64 l[k].y)∧(icells l)[k*4+3]?=some (.string ⟨l[k].ps.toArray⟩):=by
 induction l with
 | nil=>intro k h;simp at h
 | cons v l ih=>
  intro k h
  rw[icells_cons]
  match k,h with
  | 0,_=>exact ⟨rfl,rfl,rfl,rfl⟩
  | k+1,h=>
   have hk:k<l.length:=by simp only[List.length_cons] at h;omega
   have e:(k+1)*4=k*4+1+1+1+1:=by omega
   rw[e]
   obtain ⟨h0,h1,h2,h3⟩:=ih k hk
   refine ⟨?_,?_,?_,?_⟩
   ·
    simpa only[List.getElem?_cons_succ,List.getElem_cons_succ] using h0
   ·
    simpa only[List.getElem?_cons_succ,List.getElem_cons_succ,Nat.add_right_comm _ 1] using h1
   ·
    rw[show k*4+1+1+1+1+2=k*4+2+1+1+1+1 by omega];simpa only[List.getElem?_cons_succ,List.getElem_cons_succ] using h2
   ·
    rw[show k*4+1+1+1+1+3=k*4+3+1+1+1+1 by omega];simpa only[List.getElem?_cons_succ,List.getElem_cons_succ] using h3
def Ri (w:World) (A:Option Addr) (l:List In):Prop:=Rd w 4 A l.length (icells l)
theorem Ri.gr {w w':World} {A:Option Addr} {l:List In} (h:Ri w A l) (g:Gr w w'):Ri w' A l:=Rd.gr h g
theorem Ri.at {w:World} {A:Option Addr} {l:List In} (h:Ri w A l) {k:Nat} (hk:k<l.length) :
  ∃ad:Addr,A=some ad∧ad.block<w.heap.size∧w.cell? (ad.add (k*4))=some (.int .i64 l[k].op)∧w.cell? ⟨(ad.add (k*4)).block,(ad.add (k*4)).off+1,none⟩=some (.int .i64 l[k].x)
   ∧ w.cell? ⟨(ad.add (k*4)).block,(ad.add (k*4)).off+2,none⟩=some (.int .i64 l[k].y)∧w.cell? ⟨(ad.add (k*4)).block,(ad.add (k*4)).off+3,none⟩=some (.string ⟨l[k].ps.toArray⟩):=by
 obtain ⟨ad,e,hb,hc⟩:=h.2 (by omega)
 obtain ⟨h0,h1,h2,h3⟩:=icells_at l k hk
 exact ⟨ad,e,hb,hc _ _ h0,(congrArg w.cell? (add_next ad (k*4) 0)).symm.trans (hc _ _ h1),(congrArg w.cell? (add_next ad (k*4) 1)).symm.trans (hc _ _ h2),(congrArg w.cell? (add_next ad (k*4) 2)).symm.trans (hc _ _ h3)⟩
def Node (w:World) (b:Nat) (op:Nat) (ps:List UInt8) (kids:Value) (g:Nat) (z:Bool):Prop:=
 w.cell? ⟨b,0,none⟩=some (.int .i64 op)∧w.cell? ⟨b,1,none⟩=some (.string ⟨ps.toArray⟩)∧w.cell? ⟨b,2,none⟩=some kids∧w.cell? ⟨b,3,none⟩=some (.int .i64 g)∧w.cell? ⟨b,4,none⟩=some (.bool z)
def ptrs (l:List Nat):List Value:=l.map fun b=> .pointer (some ⟨b,0,none⟩)
theorem ptrs_append (l m:List Nat):ptrs (l++m)=ptrs l++ptrs m:=by simp[ptrs]
def Rk (lo:Nat) (w:World) (kids:Value) (bs:List Nat):Prop:=
 ∃A c,kids= .slice A bs.length c∧Rd w 1 A bs.length (ptrs bs)∧(0<bs.length→∀ad,A=some ad→lo<ad.block)
mutual
def Pc.at_ (lo:Nat) (w:World):Pc→Nat→Prop
 | .leaf op ps,b=>lo<b∧b<w.heap.size∧Node w b op ps (.slice none 0 0) 0 false
 | .row l,b=>lo<b∧b<w.heap.size∧∃kids bs,Node w b 10 [] kids 0 false∧Rk lo w kids bs∧l.at_ lo w bs
 | .ways l,b=>lo<b∧b<w.heap.size∧∃kids bs,Node w b 11 [] kids 0 false∧Rk lo w kids bs∧l.at_ lo w bs
 | .group g k,b=>lo<b∧b<w.heap.size∧∃kids bk,Node w b 12 [] kids g false∧Rk lo w kids [bk]∧k.at_ lo w bk
 | .rep op z k,b=>lo<b∧b<w.heap.size∧∃kids bk,Node w b op [] kids 0 z∧Rk lo w kids [bk]∧k.at_ lo w bk
def PcL.at_ (lo:Nat) (w:World):PcL→List Nat→Prop
 | .nil,bs=>bs=[]
 | .cons p l,bs=>∃b r,bs=b::r∧p.at_ lo w b∧l.at_ lo w r
end
theorem Node.gx {R b op:Nat} {w w':World} {ps:List UInt8} {kids:Value} {g:Nat} {z:Bool} (h:Node w b op ps kids g z) (x:GX R w w') (hb:b<w.heap.size) (hn:b≠R):Node w' b op ps kids g z:=by
 obtain ⟨h0,h1,h2,h3,h4⟩:=h
 exact ⟨(x.cell (p:=⟨b,0,none⟩) hb hn).trans h0,(x.cell (p:=⟨b,1,none⟩) hb hn).trans h1,(x.cell (p:=⟨b,2,none⟩) hb hn).trans h2,(x.cell (p:=⟨b,3,none⟩) hb hn).trans h3,(x.cell (p:=⟨b,4,none⟩) hb hn).trans h4⟩
theorem Rd.gx {R size n:Nat} {w w':World} {A:Option Addr} {xs:List Value} (h:Rd w size A n xs) (x:GX R w w') (hn:0<n→∀ad,A=some ad→ad.block≠R):Rd w' size A n xs:=
 ⟨h.1,fun h0=>by
  obtain ⟨ad,e,hb,hc⟩:=h.2 h0
  exact ⟨ad,e,Nat.lt_of_lt_of_le hb x.size,fun j u hu=>(x.cell (by rw[add_blk];exact hb) (by rw[add_blk];exact hn h0 ad e)).trans (hc j u hu)⟩⟩
theorem Rk.gx {R lo:Nat} {w w':World} {kids:Value} {bs:List Nat} (h:Rk lo w kids bs) (x:GX R w w') (hR:R≤lo):Rk lo w' kids bs:=by
 obtain ⟨A,c,e,hr,hb⟩:=h
 exact ⟨A,c,e,hr.gx x (fun h0 ad ha=>by have:=hb h0 ad ha;omega),hb⟩
mutual
theorem Pc.gx {R lo:Nat} {w w':World} (x:GX R w w') (hR:R≤lo):∀(p:Pc) (b:Nat),p.at_ lo w b→p.at_ lo w' b
 | .leaf op ps,b,h=>by
  simp only[Pc.at_] at h ⊢
  obtain ⟨h1,h2,h3⟩:=h
  exact ⟨h1,Nat.lt_of_lt_of_le h2 x.size,h3.gx x h2 (by omega)⟩
 | .row l,b,h=>by
  simp only[Pc.at_] at h ⊢
  obtain ⟨h1,h2,kids,bs,h3,h4,h5⟩:=h
  exact ⟨h1,Nat.lt_of_lt_of_le h2 x.size,kids,bs,h3.gx x h2 (by omega),h4.gx x hR,PcL.gx x hR l bs h5⟩
 | .ways l,b,h=>by
  simp only[Pc.at_] at h ⊢
  obtain ⟨h1,h2,kids,bs,h3,h4,h5⟩:=h
  exact ⟨h1,Nat.lt_of_lt_of_le h2 x.size,kids,bs,h3.gx x h2 (by omega),h4.gx x hR,PcL.gx x hR l bs h5⟩
 | .group g k,b,h=>by
  simp only[Pc.at_] at h ⊢
  obtain ⟨h1,h2,kids,bk,h3,h4,h5⟩:=h
  exact ⟨h1,Nat.lt_of_lt_of_le h2 x.size,kids,bk,h3.gx x h2 (by omega),h4.gx x hR,Pc.gx x hR k bk h5⟩
 | .rep op z k,b,h=>by
  simp only[Pc.at_] at h ⊢
  obtain ⟨h1,h2,kids,bk,h3,h4,h5⟩:=h
  exact ⟨h1,Nat.lt_of_lt_of_le h2 x.size,kids,bk,h3.gx x h2 (by omega),h4.gx x hR,Pc.gx x hR k bk h5⟩
theorem PcL.gx {R lo:Nat} {w w':World} (x:GX R w w') (hR:R≤lo):∀(l:PcL) (bs:List Nat),l.at_ lo w bs→l.at_ lo w' bs
 | .nil,bs,h=>by simpa only[PcL.at_] using h
 | .cons p l,bs,h=>by
  simp only[PcL.at_] at h ⊢
  obtain ⟨b,r,e,h1,h2⟩:=h
  exact ⟨b,r,e,Pc.gx x hR p b h1,PcL.gx x hR l r h2⟩
end
theorem Pc.gr {lo:Nat} {w w':World} (x:Gr w w') {p:Pc} {b:Nat} (h:p.at_ lo w b):p.at_ lo w' b:=Pc.gx (R:=0) (GX.of_gr x) (Nat.zero_le _) p b h
theorem PcL.gr {lo:Nat} {w w':World} (x:Gr w w') {l:PcL} {bs:List Nat} (h:l.at_ lo w bs):l.at_ lo w' bs:=PcL.gx (R:=0) (GX.of_gr x) (Nat.zero_le _) l bs h
structure Rdr (w:World) (R:Nat) (s:ByteArray) (n:Nat) (q:Rs):Prop where
 len:n+q.rest.length=s.size
 rest:s.data.toList.drop n=q.rest
 c0:w.cell? ⟨R,0,none⟩=some (.string s)
 c1:w.cell? ⟨R,1,none⟩=some (.int .i64 n)
 c2:w.cell? ⟨R,2,none⟩=some (.int .i64 q.groups)
 c3:w.cell? ⟨R,3,none⟩=some (.int .i64 q.deep)
 c4:w.cell? ⟨R,4,none⟩=some (.bool q.bad)
 c5:w.cell? ⟨R,5,none⟩=some (.bool q.over)
 f1:w.frozen? ⟨R,1,none⟩=false
 f2:w.frozen? ⟨R,2,none⟩=false
 f3:w.frozen? ⟨R,3,none⟩=false
 f4:w.frozen? ⟨R,4,none⟩=false
 f5:w.frozen? ⟨R,5,none⟩=false
 lt:R<w.heap.size
theorem Rdr.gr {w w':World} {R n:Nat} {s:ByteArray} {q:Rs} (h:Rdr w R s n q) (g:Gr w w'):Rdr w' R s n q:=
 ⟨h.len,h.rest,(g.cell (p:=⟨R,0,none⟩) h.lt).trans h.c0,(g.cell (p:=⟨R,1,none⟩) h.lt).trans h.c1,(g.cell (p:=⟨R,2,none⟩) h.lt).trans h.c2,(g.cell (p:=⟨R,3,none⟩) h.lt).trans h.c3,(g.cell (p:=⟨R,4,none⟩) h.lt).trans h.c4,(g.cell (p:=⟨R,5,none⟩) h.lt).trans h.c5,
  (g.frozen (p:=⟨R,1,none⟩) h.lt).trans h.f1,(g.frozen (p:=⟨R,2,none⟩) h.lt).trans h.f2,(g.frozen (p:=⟨R,3,none⟩) h.lt).trans h.f3,(g.frozen (p:=⟨R,4,none⟩) h.lt).trans h.f4,(g.frozen (p:=⟨R,5,none⟩) h.lt).trans h.f5,Nat.lt_of_lt_of_le h.lt g.size⟩
def hasS:List UInt8→Int→Bool
 | a::b::r,c=>(decide ((a.toNat:Int)≤c)&&decide (c≤(b.toNat:Int)))||hasS r c
 | [_],_=>false
 | [],_=>false
theorem hasS_yes {l:List UInt8} {c:Int} {k:Nat} (h:k+1<l.length) (h1:(l[k].toNat:Int)≤c) (h2:c≤(l[k+1].toNat:Int)):hasS (l.drop k) c=true:=by
 rw[List.drop_eq_getElem_cons (by omega:k<l.length),List.drop_eq_getElem_cons h]
 simp only[hasS,h1,h2,decide_true,Bool.and_self,Bool.true_or]
theorem hasS_no {l:List UInt8} {c:Int} {k:Nat} (h:k+1<l.length) (h1:¬((l[k].toNat:Int)≤c∧c≤(l[k+1].toNat:Int))):hasS (l.drop k) c=hasS (l.drop (k+2)) c:=by
 rw[List.drop_eq_getElem_cons (by omega:k<l.length),List.drop_eq_getElem_cons h]
 have e:(decide ((l[k].toNat:Int)≤c)&&decide (c≤(l[k+1].toNat:Int)))=false:=by
  rw[←Bool.decide_and];exact decide_eq_false h1
 simp only[hasS,e,Bool.false_or]
theorem hasS_end {l:List UInt8} {c:Int} {k:Nat} (h:¬k+1<l.length):hasS (l.drop k) c=false:=by
 match e:l.drop k with
 | []=>rfl
 | [_]=>rfl
 | a::b::r=>
  have:=congrArg List.length e
  simp at this
  omega
theorem has_any (s:ByteArray) (hs:(s.size:Int)≤9223372036854775800) (c:Int) (w:World):Calls Tryz.prog 111 #[.string s, .int .u8 c] w fun e w'=>e= .returned (.bool (hasS s.data.toList c))∧w=w':=by
 obtain ⟨R,hR⟩:∃R,R=hasS s.data.toList c:=⟨_,rfl⟩
 rw[←hR]
 have HR:=Lib.hid hR
 clear hR
 go_enter Tryz.func111,Tryz.ntmps111
 go_wp2
 go_loop [5] (fun i=>∃k:Nat,k≤s.size+1∧i= .int .i64 k∧R=hasS (s.data.toList.drop k) c) (fun i=>s.size+2-(intOf i).toNat)
 case atStart=>exact ⟨0,by omega,rfl,HR.out⟩
 case round=>
  obtain ⟨k,hk,rfl,hE⟩:=hrel
  have HE:=Lib.hid hE
  clear hE
  by_cases hlt:k+1<s.size
  ·
   have hlt':(k:Int)+1<(s.size:Int):=by omega
   have hk0:k<s.size:=by omega
   have hkl:k+1<s.data.toList.length:=by simpa using hlt
   have e1:s.data.toList[k]'(by omega)=s[k]:=rfl
   have e2:s.data.toList[k+1]=s[k+1]:=rfl
   have HEE:=Lib.hid (And.intro e1 e2)
   clear e1 e2
   by_cases h1:((s[k]).toNat:Int)≤c
   ·
    by_cases h2:c≤((s[k+1]).toNat:Int)
    ·
     go_wp2
     go_ret
     have:=hasS_yes (l:=s.data.toList) (c:=c) hkl (by rw[HEE.out.1];exact h1) (by rw[HEE.out.2];exact h2)
     rw[HE.out,this]
     exact ⟨rfl,rfl⟩
    ·
     go_wp2
     go_round
     case rel=>exact ⟨k+2,by omega,by go_num,by rw[HE.out];exact hasS_no hkl (by rw[HEE.out.1,HEE.out.2];exact fun h=>absurd h.2 (by omega))⟩
     case measure=>simp[intOf];omega
   ·
    go_wp2
    go_round
    case rel=>exact ⟨k+2,by omega,by go_num,by rw[HE.out];exact hasS_no hkl (by rw[HEE.out.1,HEE.out.2];exact fun h=>absurd h.1 (by omega))⟩
    case measure=>simp[intOf];omega
  ·
   have hge:¬(k:Int)+1<(s.size:Int):=by omega
   go_wp2
   go_ret
   have:=hasS_end (l:=s.data.toList) (c:=c) (k:=k) (by simpa using hlt)
   rw[HE.out,this]
   exact ⟨rfl,rfl⟩
theorem rhas_any (s:ByteArray) (hs:(s.size:Int)≤9223372036854775800) (c:Int) (w:World):Calls Tryz.prog 135 #[.string s, .int .u8 c] w fun e w'=>e= .returned (.bool (hasS s.data.toList c))∧w=w':=by
 obtain ⟨R,hR⟩:∃R,R=hasS s.data.toList c:=⟨_,rfl⟩
 rw[←hR]
 have HR:=Lib.hid hR
 clear hR
 go_enter Tryz.func135,Tryz.ntmps135
 go_wp2
 go_loop [5] (fun i=>∃k:Nat,k≤s.size+1∧i= .int .i64 k∧R=hasS (s.data.toList.drop k) c) (fun i=>s.size+2-(intOf i).toNat)
 case atStart=>exact ⟨0,by omega,rfl,HR.out⟩
 case round=>
  obtain ⟨k,hk,rfl,hE⟩:=hrel
  have HE:=Lib.hid hE
  clear hE
  by_cases hlt:k+1<s.size
  ·
   have hlt':(k:Int)+1<(s.size:Int):=by omega
   have hk0:k<s.size:=by omega
   have hkl:k+1<s.data.toList.length:=by simpa using hlt
   have e1:s.data.toList[k]'(by omega)=s[k]:=rfl
   have e2:s.data.toList[k+1]=s[k+1]:=rfl
   have HEE:=Lib.hid (And.intro e1 e2)
   clear e1 e2
   by_cases h1:((s[k]).toNat:Int)≤c
   ·
    by_cases h2:c≤((s[k+1]).toNat:Int)
    ·
     go_wp2
     go_ret
     have:=hasS_yes (l:=s.data.toList) (c:=c) hkl (by rw[HEE.out.1];exact h1) (by rw[HEE.out.2];exact h2)
     rw[HE.out,this]
     exact ⟨rfl,rfl⟩
    ·
     go_wp2
     go_round
     case rel=>exact ⟨k+2,by omega,by go_num,by rw[HE.out];exact hasS_no hkl (by rw[HEE.out.1,HEE.out.2];exact fun h=>absurd h.2 (by omega))⟩
     case measure=>simp[intOf];omega
   ·
    go_wp2
    go_round
    case rel=>exact ⟨k+2,by omega,by go_num,by rw[HE.out];exact hasS_no hkl (by rw[HEE.out.1,HEE.out.2];exact fun h=>absurd h.1 (by omega))⟩
    case measure=>simp[intOf];omega
  ·
   have hge:¬(k:Int)+1<(s.size:Int):=by omega
   go_wp2
   go_ret
   have:=hasS_end (l:=s.data.toList) (c:=c) (k:=k) (by simpa using hlt)
   rw[HE.out,this]
   exact ⟨rfl,rfl⟩
def succS (code:List In) (t:List UInt8) (pc:Int) (at':Nat):List (Int×Nat):=
 if pc<0 then [] else
 match code[pc.toNat]? with
 | none=>[]
 | some v=>
  if v.op=1 then (if h:at'<t.length then (if hasS v.ps (t[at'].toNat:Int) then [(pc+1,at'+1)] else []) else [])
  else if v.op=2 then [(v.y,at'),(v.x,at')]
  else if v.op=3 then [(v.x,at')]
  else if v.op=4 then [(pc+1,at')]
  else if v.op=5 then (if at'=0 then [(pc+1,at')] else [])
  else if v.op=6 then (if at'=t.length then [(pc+1,at')] else [])
  else []
inductive Rc (code:List In) (t:List UInt8) (S:Nat→Prop):Int→Nat→Prop
 | start (p:Nat):S p→p≤t.length→Rc code t S 0 p
 | step (pc:Int) (p:Nat) (q:Int×Nat):Rc code t S pc p→q∈succS code t pc p→Rc code t S q.1 q.2
def InR (code:List In) (pc:Int):Prop:=0≤pc∧pc<code.length
def AccS (code:List In) (t:List UInt8) (S:Nat→Prop):Prop:=∃(k:Nat) (p:Nat) (h:k<code.length),Rc code t S k p∧code[k].op=7
open Classical in
noncomputable def isC (code:List In) (t:List UInt8):Bool:=decide (AccS code t fun p=>p≤t.length)
theorem Rc.le {code:List In} {t:List UInt8} {S:Nat→Prop} {pc:Int} {p:Nat} (h:Rc code t S pc p):p≤t.length:=by
 induction h with
 | start p _ hp=>exact hp
 | step pc p q _ hq ih=>
  unfold succS at hq
  split at hq
  ·
   cases hq
  ·
   split at hq
   ·
    cases hq
   ·
    split at hq
    ·
     split at hq
     ·
      split at hq
      ·
       rw[List.mem_singleton] at hq;subst hq;simp only;omega
      ·
       cases hq
     ·
      cases hq
    ·
     split at hq
     ·
      simp only[List.mem_cons,List.not_mem_nil,or_false] at hq
      rcases hq with rfl|rfl<;>exact ih
     ·
      split at hq
      ·
       rw[List.mem_singleton] at hq;subst hq;exact ih
      ·
       split at hq
       ·
        rw[List.mem_singleton] at hq;subst hq;exact ih
       ·
        split at hq
        ·
         split at hq
         ·
          rw[List.mem_singleton] at hq;subst hq;exact ih
         ·
          cases hq
        ·
         split at hq
         ·
          split at hq
          ·
           rw[List.mem_singleton] at hq;subst hq;exact ih
          ·
           cases hq
         ·
          cases hq
theorem Rc.mono {code:List In} {t:List UInt8} {S S':Nat→Prop} (hS:∀p,S p→S' p) {pc:Int} {p:Nat} (h:Rc code t S pc p):Rc code t S' pc p:=by
 induction h with
 | start p hp h=>exact .start p (hS p hp) h
 | step pc p q _ hq ih=>exact .step pc p q ih hq
theorem Rc.one {code:List In} {t:List UInt8} {S:Nat→Prop} {pc:Int} {p:Nat} (h:Rc code t S pc p):∃i,S i∧i≤t.length∧Rc code t (· = i) pc p:=by
 induction h with
 | start p hp h=>exact ⟨p,hp,h, .start p rfl h⟩
 | step pc p q _ hq ih=>
  obtain ⟨i,h1,h2,h3⟩:=ih
  exact ⟨i,h1,h2, .step pc p q h3 hq⟩
theorem succS_at {code:List In} {t:List UInt8} {k:Nat} (h:k<code.length) (p:Nat):succS code t k p =
  (if code[k].op=1 then (if h:p<t.length then (if hasS code[k].ps (t[p].toNat:Int) then [((k:Int)+1,p+1)] else []) else [])
  else if code[k].op=2 then [(code[k].y,p),(code[k].x,p)]
  else if code[k].op=3 then [(code[k].x,p)]
  else if code[k].op=4 then [((k:Int)+1,p)]
  else if code[k].op=5 then (if p=0 then [((k:Int)+1,p)] else [])
  else if code[k].op=6 then (if p=t.length then [((k:Int)+1,p)] else [])
  else []):=by
 unfold succS
 rw[if_neg (by omega),Int.toNat_natCast,List.getElem?_eq_getElem h]
theorem succS_out {code:List In} {t:List UInt8} {pc:Int} (h:¬InR code pc) (p:Nat):succS code t pc p=[]:=by
 unfold succS
 split
 ·
  rfl
 ·
  rw[List.getElem?_eq_none]
  unfold InR at h
  omega
theorem Rc.all {code:List In} {t:List UInt8} {i:Nat} (seen:Nat→Nat→Prop) (h0:InR code 0→seen 0 i)
  (hc:∀k p,k<code.length→seen k p→∀q∈succS code t k p,InR code q.1→seen q.1.toNat q.2) {pc:Int} {p:Nat} (h:Rc code t (· = i) pc p):InR code pc→seen pc.toNat p:=by
 induction h with
 | start p hp _=>intro hi;subst hp;exact h0 hi
 | step pc p q _ hq ih=>
  intro hi
  by_cases hpc:InR code pc
  ·
   have h1:=hpc.1
   have h2:=hpc.2
   have h3:=hc pc.toNat p (by omega) (ih hpc) q (by rw[Int.toNat_of_nonneg h1];exact hq) hi
   exact h3
  ·
   rw[succS_out hpc] at hq
   cases hq
open Classical in
theorem acc_of {code:List In} {t:List UInt8} {i:Nat} (hi:i≤t.length) (h:AccS code t (· = i)):isC code t=true:=by
 obtain ⟨k,p,hk,h1,h2⟩:=h
 unfold isC
 exact decide_eq_true ⟨k,p,hk,h1.mono (fun _ e=>e▸hi),h2⟩
open Classical in
theorem acc_not {code:List In} {t:List UInt8} (h:∀i,i≤t.length→¬AccS code t (· = i)):isC code t=false:=by
 unfold isC
 refine decide_eq_false ?_
 rintro ⟨k,p,hk,h1,h2⟩
 obtain ⟨i, -,hi,h3⟩:=h1.one
 exact h i hi ⟨k,p,hk,h3,h2⟩
end Go.Proofs.YtnphdacibageiaaGreat
