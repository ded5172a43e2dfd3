import Derived.Test.YtnphdacibageiaaGreatRunRxPiece
import Derived.Test.YtnphdacibageiaaGreatRunSrIs
import Derived.Test.YtnphdacibageiaaGreatRunPkVis
set_option linter.all false
set_option maxRecDepth 1000000
set_option maxHeartbeats 12800000
namespace Go.Proofs.YtnphdacibageiaaGreat
open Go.RowKit
def RetW (w:World) (B:Nat) (A:Option Addr) (res:List In) (e:Ending) (w':World):Prop:=
 e= .returned (.tuple #[])∧∃A',WrtA w' B A' res∧WX B w (blk A) w' (blk A')
theorem Rd.inst (w:World) (v:In):Rd (w.alloc (.cells #[.int .i64 v.op, .int .i64 v.x, .int .i64 v.y, .string ⟨v.ps.toArray⟩] 85)) 4 (some ⟨w.heap.size,0,none⟩) 1 (icells [v]):=by
 refine ⟨rfl,fun _=>⟨_,rfl,by simp,fun j u hu=>?_⟩⟩
 have:=(World.ownsRow_lit (base:=0) (e:=85) (size:=4) w #[.int .i64 v.op, .int .i64 v.x, .int .i64 v.y, .string ⟨v.ps.toArray⟩] 1 (Nat.zero_le _) (by decide) rfl).cells (g:=w.heap.size) rfl j u (by simpa [icells] using hu)
 exact this
theorem lays_one {w:World} {B:Nat} {A:Option Addr} {code:List In} (h:WrtA w B A code) (v:In) (hb:code.length≤4000) :
  Calls Tryz.prog 46 #[.pointer (some ⟨B,0,none⟩), .slice (some ⟨w.heap.size,0,none⟩) 1 1] (w.alloc (.cells #[.int .i64 v.op, .int .i64 v.x, .int .i64 v.y, .string ⟨v.ps.toArray⟩] 85)) fun e w'=>e= .returned (.int .i64 code.length)∧∃A',WrtA w' B A' (code++[v])∧WX B w (blk A) w' (blk A'):=by
 have g:=Gr.alloc (Gr.refl w) (.cells #[.int .i64 v.op, .int .i64 v.x, .int .i64 v.y, .string ⟨v.ps.toArray⟩] 85)
 refine (lays_any (h.gr g) _ 1 1 [v] rfl (by decide) (Rd.inst w v) (by omega)).mono ?_
 rintro e w' ⟨he,A',h1,h2⟩
 exact ⟨he,A',h1,(WX.gr _ g).trans h2⟩
theorem put_leaf {w:World} {B:Nat} {A:Option Addr} {code:List In} (hB:WrtA w B A code) (hl:code.length≤1020) {b op:Nat} {ps:List UInt8} (hop:op<10) (hbs:b<w.heap.size) (hn:Node w b op ps (.slice none 0 0) 0 false) :
  Calls Tryz.prog 47 #[.pointer (some ⟨B,0,none⟩), .pointer (some ⟨b,0,none⟩)] w (RetW w B A (code++[⟨op,0,0,ps⟩])):=by
 obtain ⟨n0,n1,n2,n3,n4⟩:=hn
 have hful:decide (1024<(code.length:Int))=false:=by simp;omega
 have t10:((op:Int)==10)=false:=by simp;omega
 have t11:((op:Int)==11)=false:=by simp;omega
 have t12:((op:Int)==12)=false:=by simp;omega
 have t42:((op:Int)==42)=false:=by simp;omega
 have t43:((op:Int)==43)=false:=by simp;omega
 have t63:((op:Int)==63)=false:=by simp;omega
 obtain ⟨L,hL⟩:∃L,L=code.length:=⟨_,rfl⟩
 go_enter Tryz.func47,Tryz.ntmps47
 go_upto_region 2 with (go_at_call 48;refine (full_any hB).mono ?_;rintro e w1 ⟨rfl,rfl⟩)
 clear t10 t11 t12 t42 t43 t63 hful n2 n3 n4
 have hS0:Gr w w.drew:=Gr.drew (Gr.refl w)
 refine wp_region_Z 11 (fun W=>Gr w W) (by kernel_rfl) ?_
 refine zu 0 rfl hS0 (fun W hS=>by go_simp;rfl) ?_
 refine zu 1 rfl hS0 (fun W hS=>by go_simp;rfl) ?_
 refine zu 2 rfl hS0 (fun W hS=>by go_simp;rfl) ?_
 refine zu 3 rfl hS0 (fun W hS=>by go_simp;rfl) ?_
 refine zu 4 rfl hS0 (fun W hS=>by have g0:=(Below.cell hS (p:=⟨b,0,none⟩) hbs).trans n0;go_simp;rfl) ?_
 refine zu 5 rfl hS0 (fun W hS=>by go_simp;rfl) ?_
 refine zu 6 rfl hS0 (fun W hS=>by go_simp;rfl) ?_
 refine zu 7 rfl hS0 (fun W hS=>by go_simp;rfl) ?_
 refine zu 8 rfl hS0 (fun W hS=>by have g1:=(Below.cell hS (p:=⟨b,1,none⟩) hbs).trans n1;go_simp;rfl) ?_
 refine zu 9 rfl hS0 (fun W hS=>by go_simp;rfl) ?_
 clear n0 n1
 refine wpAnyZ_ready (rs:=[10]) (by kernel_rfl) (by simp) ?_
 refine AllReadyZ.cons (i:=10) rfl (by kernel_rfl) ?x310 AllReadyZ.nil
 intro K hK
 simp only[List.getElem_toArray,List.getElem_cons_succ,List.getElem_cons_zero]
 go_simp
 refine hK.out _ _ (fun _=>?zs1) (fun _=>?zr1)
 case zs1=>exact Gr.alloc hS0 _
 clear hK K
 try (simp only[Pu,List.getElem_toArray,List.getElem_cons_succ,List.getElem_cons_zero])
 refine wpAnyZ_ready (rs:=[11]) (by kernel_rfl) (by simp) ?_
 refine AllReadyZ.cons (i:=11) rfl (by kernel_rfl) ?x311 AllReadyZ.nil
 intro K hK
 simp only[List.getElem_toArray,List.getElem_cons_succ,List.getElem_cons_zero]
 go_simp
 have hB1:=hB.gr hS0
 refine (lays_one hB1 ⟨op,0,0,ps⟩ (by omega)).mono ?_
 rintro e w' ⟨rfl,A',k1,k2⟩
 go_wp2_with fail
 refine hK.out _ _ (fun hnz=>absurd rfl hnz) (fun _=>?zr2)
 clear hK K
 try (simp only[Pu,List.getElem_toArray,List.getElem_cons_succ,List.getElem_cons_zero])
 refine wpAnyZ_done (by kernel_rfl) ?_ _
 go_wp2
 go_end0
 exact ⟨rfl,A',k1,(WX.gr _ hS0).trans k2⟩
theorem Rkn.kid {lo hi bk:Nat} {w:World} {kids:Value} (h:Rkn lo hi w kids [bk]):∃ad c,kids= .slice (some ad) 1 c∧lo<ad.block∧ad.block<hi∧w.cell? ad=some (.pointer (some ⟨bk,0,none⟩)):=by
 obtain ⟨A,c,e,hr,hb⟩:=h
 obtain ⟨ad,rfl,_,hc⟩:=hr.2 (by simp)
 obtain ⟨h0,h1⟩:=hb (by simp) ad rfl
 exact ⟨ad,c,e,h0,h1,hc 0 _ rfl⟩
theorem Same.at_ {lo hi:Nat} {w w':World} (h:Same lo hi w w') {p:Addr} (h0:lo<p.block) (h1:p.block<hi) {u:Value} (hc:w.cell? p=some u):w'.cell? p=some u:=(World.cell?_of_block (h.2 _ h0 h1)).trans hc
theorem Same.trans {lo hi:Nat} {w w1 w2:World} (h:Same lo hi w w1) (k:Same lo hi w1 w2):Same lo hi w w2:=⟨k.1,fun i h0 h1=>(k.2 i h0 h1).trans (h.2 i h0 h1)⟩
theorem WrtA.same {w w':World} {B lo hi:Nat} {A:Option Addr} {g':Option Nat} {code:List In} (h:WrtA w B A code) (x:WX B w (blk A) w' g') (hB:hi≤B):Same lo hi w w':=
 x.same hB (fun k hk=>Nat.le_of_lt (h.row k hk).1) h.lt
def KidP (lo hi B bk:Nat) (w:World) (k:Pc) (n:Nat):Prop:=
 ∀(w1:World) (A1:Option Addr) (code1:List In),WrtA w1 B A1 code1→Same lo hi w w1→code1.length=n→
  Calls Tryz.prog 47 #[.pointer (some ⟨B,0,none⟩), .pointer (some ⟨bk,0,none⟩)] w1 (RetW w1 B A1 (code1++k.lay n))
theorem PcL.app_one:∀(l:PcL) (p:Pc) (m:PcL),l.app (.cons p m)=(l.app (.cons p .nil)).app m
 | .nil,p,m=>rfl
 | .cons q l,p,m=>by rw[PcL.app,PcL.app,PcL.app,PcL.app_one l p m]
theorem PcL.len_app:∀(l m:PcL),(l.app m).len=l.len+m.len
 | .nil,m=>by simp[PcL.app,PcL.len]
 | .cons p l,m=>by simp only[PcL.app,PcL.len,PcL.len_app l m];omega
theorem PcL.szR_app:∀(l m:PcL),(l.app m).szR=l.szR+m.szR
 | .nil,m=>by simp[PcL.app,PcL.szR]
 | .cons p l,m=>by simp only[PcL.app,PcL.szR,PcL.szR_app l m];omega
theorem PcL.layR_app:∀(l m:PcL) (a:Nat),(l.app m).layR a=l.layR a++m.layR (a+l.szR)
 | .nil,m,a=>by simp[PcL.app,PcL.layR,PcL.szR]
 | .cons p l,m,a=>by simp only[PcL.app,PcL.layR,PcL.szR,PcL.layR_app l m,List.append_assoc,Nat.add_assoc]
theorem PcL.In.len {lo hi:Nat} {w:World}:∀{l:PcL} {bs:List Nat},l.In lo hi w bs→l.len=bs.length
 | .nil,bs,h=>by simp only[PcL.In] at h;subst h;rfl
 | .cons p l,bs,h=>by
  simp only[PcL.In] at h
  obtain ⟨b,r,rfl,_,h2⟩:=h
  simp only[PcL.len,List.length_cons,h2.len]
theorem PcL.In.get {lo hi:Nat} {w:World}:∀{l:PcL} {p:Pc} {m:PcL} {bs:List Nat},(l.app (.cons p m)).In lo hi w bs→∃bk,bs[l.len]?=some bk∧p.In lo hi w bk
 | .nil,p,m,bs,h=>by
  simp only[PcL.app,PcL.In] at h
  obtain ⟨b,r,rfl,h1,_⟩:=h
  exact ⟨b,rfl,h1⟩
 | .cons q l,p,m,bs,h=>by
  simp only[PcL.app,PcL.In] at h
  obtain ⟨b,r,rfl,_,h2⟩:=h
  obtain ⟨bk,h3,h4⟩:=PcL.In.get h2
  exact ⟨bk,by simpa [PcL.len] using h3,h4⟩
theorem Rkn.at_ {lo hi k bk:Nat} {w:World} {A:Option Addr} {n c:Nat} {bs:List Nat} (h:Rkn lo hi w (.slice A n c) bs) (hk:bs[k]?=some bk):n=bs.length∧∃ad,A=some ad∧lo<ad.block∧ad.block<hi∧w.cell? (ad.add k)=some (.pointer (some ⟨bk,0,none⟩)):=by
 obtain ⟨A',c',e,hr,hb⟩:=h
 have hlt:k<bs.length:=(List.getElem?_eq_some_iff.1 hk).1
 injection e with e1 e2 e3
 subst e1
 obtain ⟨ad,rfl,_,hc⟩:=hr.2 (by omega)
 obtain ⟨h0,h1⟩:=hb (by omega) ad rfl
 exact ⟨e2,ad,rfl,h0,h1,hc k _ (by simp[ptrs,hk])⟩
theorem Rkn.form {lo hi:Nat} {w:World} {kids:Value} {bs:List Nat} (h:Rkn lo hi w kids bs):∃A c,kids= .slice A bs.length c∧bs.length≤bs.length:=by
 obtain ⟨A,c,e,_⟩:=h
 exact ⟨A,c,e,Nat.le_refl _⟩
theorem Same.add {lo hi:Nat} {w w':World} (h:Same lo hi w w') {p:Addr} {k:Nat} (h0:lo<p.block) (h1:p.block<hi) {u:Value} (hc:w.cell? (p.add k)=some u):w'.cell? (p.add k)=some u:=h.at_ (by rw[add_blk];exact h0) (by rw[add_blk];exact h1) hc
def RowR (w:World) (B:Nat) (A:Option Addr) (code:List In) (l:PcL) (k:Nat) (wr:World):Prop:=
 ∃(ds rest:PcL) (A':Option Addr),l=ds.app rest∧ds.len=k∧WrtA wr B A' (code++ds.layR code.length)∧WX B w (blk A) wr (blk A')
theorem put_row {w:World} {B lo hi:Nat} {A:Option Addr} {code:List In} (hB:WrtA w B A code) {b:Nat} {kids:Value} {l:PcL} {bs:List Nat} (hl:code.length+l.szR≤1016) (h0:lo<b) (h1:b<hi) (h2:hi≤B) (hr:Rkn lo hi w kids bs) (hbs:bs.length≤6000) (hn:Node w b 10 [] kids 0 false) (hin:l.In lo hi w bs)
  (HK:∀(ds:PcL) (p:Pc) (rest:PcL) (bk:Nat),l=ds.app (.cons p rest)→p.In lo hi w bk→KidP lo hi B bk w p (code.length+ds.szR)) :
  Calls Tryz.prog 47 #[.pointer (some ⟨B,0,none⟩), .pointer (some ⟨b,0,none⟩)] w (RetW w B A (code++l.layR code.length)):=by
 obtain ⟨KA,kc,rfl, -⟩:=hr.form
 have hll:=hin.len
 obtain ⟨n,hnn⟩:∃n,n=bs.length:=⟨_,rfl⟩
 rw[←hnn] at hr hn hll hbs
 have hful:decide (1024<(code.length:Int))=false:=by simp;omega
 have hst:RowR w B A code l 0 w:=⟨.nil,l,A,rfl,rfl,by simpa [PcL.layR] using hB,WX.refl _ _ _⟩
 have Hst:=Lib.hid hst
 have Hll:=Lib.hid hll
 clear hst hll hnn
 obtain ⟨n0,n1,n2,n3,n4⟩:=hn
 go_enter Tryz.func47,Tryz.ntmps47
 go_wp2_with (go_at_call 48;refine (full_any hB).mono ?_;rintro e w1 ⟨rfl,rfl⟩)
 clear hful n0 n1 n2 n3 n4
 go_loopw [35] (fun t wr=>∃k:Nat,t= .int .i64 k∧k≤n∧RowR w B A code l k wr) (fun t wr=>n-(intOf t).toNat)
 case atStart=>exact ⟨0,rfl,Nat.zero_le _,Hst.out⟩
 case round=>
  obtain ⟨k,rfl,hk,HR⟩:=hrel
  by_cases hlt:k<n
  ·
   obtain ⟨ds,rest,A1,e1,e2,hB1,hX1⟩:=HR
   match rest,e1 with
   | .nil,e1=>exfalso;rw[e1,PcL.len_app] at Hll;have:=Hll.out;simp only[PcL.len] at this;omega
   | .cons p rest,e1=>
   have hin2:=hin
   rw[e1] at hin2
   obtain ⟨bk,hbk,hpin⟩:=hin2.get
   rw[e2] at hbk
   obtain ⟨-,ad,rfl,a0,a1,ha⟩:=hr.at_ hbk
   have hS1:=hB.same (lo:=lo) hX1 h2
   have ha1:=hS1.add a0 a1 ha
   have HP:=HK ds p rest bk e1 hpin
   have hlen:(code++ds.layR code.length).length=code.length+ds.szR:=by rw[List.length_append,PcL.layR_len]
   have HC:=HP wr A1 _ hB1 hS1 hlen
   have He:=Lib.hid (And.intro e1 e2)
   have Hh:=Lib.hid (And.intro hB1 hX1)
   clear e1 e2 hB1 hX1 hin2 hbk ha hlen hin HK HP hl hS1 hpin hr
   go_wp2_with (go_at_call 47;refine HC.mono ?_;rintro e w2 ⟨rfl,A2,hB2,hX2⟩;have Hh2:=Lib.hid (And.intro hB2 hX2);clear hB2 hX2)
   go_roundw
   case rel=>
    refine ⟨k+1,by go_num,by omega,ds.app (.cons p .nil),rest,A2,?_,?_,?_,Hh.out.2.trans Hh2.out.2⟩
    ·
     rw[He.out.1];exact PcL.app_one _ _ _
    ·
     rw[PcL.len_app,He.out.2];rfl
    ·
     rw[PcL.layR_app]
     have:=Hh2.out.1
     simpa [PcL.layR] using this
   case measure=>simp[intOf];omega
  ·
   have hkn:k=n:=by omega
   have HR':=Lib.hid HR
   clear HR hin HK hr
   go_wp2
   go_end0
   obtain ⟨ds,rest,A1,e1,e2,hB1,hX1⟩:=HR'.out
   have:rest= .nil:=by
    cases rest with
    | nil=>rfl
    | cons q r=>exfalso;have:=Hll.out;rw[e1,PcL.len_app] at this;simp only[PcL.len] at this;omega
   subst this
   rw[PcL.app_nil] at e1
   rw[←e1] at hB1
   exact ⟨rfl,A1,hB1,hX1⟩
theorem own_wx {w w':World} {B base:Nat} {g g':Option Nat} {e:TypeId} {size n:Nat} {v:Value} {xs:List Value} (h:w.ownsRow base e size v n xs) (x:WX B w g w' g') (hB:B<base) (hn:∀k,v.ownBlock=some k→g≠some k):w'.ownsRow base e size v n xs:=by
 obtain ⟨h1,⟨hv,h0⟩|⟨g',cap,cur,hv,hb,hh,h2⟩⟩:=h
 ·
  exact ⟨h1, .inl ⟨hv,h0⟩⟩
 ·
  exact ⟨h1, .inr ⟨g',cap,cur,hv,hb,(x.block g' (Array.getElem?_eq_some_iff.1 hh).1 (by omega) (hn g' (by rw[hv];rfl))).trans hh,h2⟩⟩
theorem icells_putX (e:Nat) (code:List In):∀(i:Nat),i<code.length→(icells code).set (i*4+1) (.int .i64 e)=icells (putX e code i):=by
 induction code with
 | nil=>intro i h;simp at h
 | cons v l ih=>
  intro i h
  match i,h with
  | 0,_=>rfl
  | i+1,h=>
   have e1:(i+1)*4+1=(i*4+1)+1+1+1+1:=by omega
   rw[icells_cons,e1]
   simp only[List.set_cons_succ]
   rw[ih i (by simpa using h)]
   rfl
theorem WrtA.putX {w:World} {B g:Nat} {code:List In} (h:WrtA w B (some ⟨g,0,none⟩) code) {j:Nat} (hj:j<code.length) (e:Nat):WrtA (w.setCell ⟨g,j*4+1,none⟩ (.int .i64 e)) B (some ⟨g,0,none⟩) (putX e code j):=by
 obtain ⟨c,h1,h2,own,h4⟩:=h
 have hgl:=own.lt g rfl
 obtain ⟨o1, -⟩:=own.stored (j*4+1) (.int .i64 e)
 rw[icells_putX e code j hj] at o1
 refine ⟨c,?_,?_,?_,by simpa using h4⟩
 ·
  rw[putX_len]
  exact (World.cell?_setCell_other w _ ⟨B,0,none⟩ _ (by first|(simp;done)|(simp;omega))).trans h1
 ·
  rw[World.frozen?_setCell];exact h2
 ·
  rw[putX_len];exact o1
theorem foldl_len (e:Nat):∀(js:List Nat) (c:List In),(js.foldl (putX e) c).length=c.length
 | [],c=>rfl
 | j::js,c=>by rw[List.foldl_cons,foldl_len e js,putX_len]
def JumpR (w:World) (B g:Nat) (A:Option Addr) (code4:List In) (js:List Nat) (N:Nat) (v:Value) (i:Nat) (wr:World):Prop:=
 WrtA wr B (some ⟨g,0,none⟩) ((js.take i).foldl (putX N) code4)∧WX B w (blk A) wr (some g)∧wr.ownsRow w.heap.size 3 1 v js.length (js.map fun j:Nat=>Value.int .i64 (j:Int))∧∀g',v.ownBlock=some g'→some g≠some g'
theorem JumpR.next {w wr w5:World} {B g N:Nat} {A:Option Addr} {code4:List In} {js:List Nat} {v:Value} {i j:Nat} (h:JumpR w B g A code4 js N v i wr) (h5:Gr wr w5) (hi:js[i]?=some j) (hj:j<code4.length) (hB:B<w.heap.size):JumpR w B g A code4 js N v (i+1) (w5.setCell ⟨g,j*4+1,none⟩ (.int .i64 N)):=by
 obtain ⟨h1,h2,h3,h4⟩:=h
 have e:js.take (i+1)=js.take i++[j]:=by rw[List.take_add_one,hi];rfl
 have x:WX B wr (some g) (w5.setCell ⟨g,j*4+1,none⟩ (.int .i64 N)) (some g):=(WX.gr (some g) h5).set (p:=⟨g,j*4+1,none⟩) (.inr rfl) _
 refine ⟨?_,h2.trans x,own_wx h3 x hB (fun k hk=>h4 k hk),h4⟩
 rw[e,List.foldl_append]
 exact (h1.gr h5).putX (by rw[foldl_len];exact hj) N
def KP (p:Pc):Prop:=∀(w:World) (B:Nat) (A:Option Addr) (code:List In) (b lo hi:Nat),WrtA w B A code→p.In lo hi w b→hi≤B→0<code.length→code.length+p.sz≤1016→p.ok→
 Calls Tryz.prog 47 #[.pointer (some ⟨B,0,none⟩), .pointer (some ⟨b,0,none⟩)] w (RetW w B A (code++p.lay code.length))
theorem KP.kid {p:Pc} (h:KP p) {w:World} {B bk lo hi n:Nat} (hin:p.In lo hi w bk) (h2:hi≤B) (hn:0<n) (hs:n+p.sz≤1016) (hok:p.ok):KidP lo hi B bk w p n:=by
 intro w1 A1 code1 hB1 hS hl
 have:=h w1 B A1 code1 bk lo hi hB1 (Pc.In.same hS _ _ hin) h2 (by omega) (by omega) hok
 rwa [hl] at this
theorem PcL.ok_get:∀(ds:PcL) (p:Pc) (rest:PcL),(ds.app (.cons p rest)).ok→p.ok
 | .nil,p,rest,h=>h.1
 | .cons q l,p,rest,h=>PcL.ok_get l p rest h.2
def grpX (s:List UInt8):Nat:=bif errX s==0 then (readS s).2.groups else 0
def codeY (s:List UInt8):List In:=bif errX s==0 then codeX s else []
def RetC (w:World) (l:List UInt8) (e:Ending) (w':World):Prop:=
 ∃A c,e= .returned (.tuple #[.agg #[.int .i64 (grpX l), .slice A (codeY l).length c], .int .i64 (errX l)])∧Ri w' A (codeY l)∧Gr w w'∧∀ad,A=some ad→ad=⟨ad.block,0,none⟩∧w.heap.size≤ad.block
theorem rdr_new (w:World) (s:ByteArray):Rdr (w.alloc (.cells #[.string s, .int .i64 0, .int .i64 0, .int .i64 0, .bool false, .bool false] 77)) w.heap.size s 0 ⟨s.data.toList,0,0,false,false⟩:=by
 refine ⟨by simp,rfl,?_,?_,?_,?_,?_,?_,?_,?_,?_,?_,?_,?_⟩
 all_goals go_simp
 all_goals try rfl
theorem wrt_new (w:World):WrtA (w.alloc (.cells #[.slice none 0 0] 82)) w.heap.size none []:=by
 refine ⟨0,?_,?_,World.ownsRow_nil _ _ _ _,by simp⟩
 all_goals go_simp
 all_goals try rfl
theorem Rd.two (w:World) (u v:In):Rd (w.alloc (.cells #[.int .i64 u.op, .int .i64 u.x, .int .i64 u.y, .string ⟨u.ps.toArray⟩, .int .i64 v.op, .int .i64 v.x, .int .i64 v.y, .string ⟨v.ps.toArray⟩] 85)) 4 (some ⟨w.heap.size,0,none⟩) 2 (icells [u,v]):=by
 refine ⟨rfl,fun _=>⟨_,rfl,by simp,fun j x hx=>?_⟩⟩
 have:=(World.ownsRow_lit (base:=0) (e:=85) (size:=4) w #[.int .i64 u.op, .int .i64 u.x, .int .i64 u.y, .string ⟨u.ps.toArray⟩, .int .i64 v.op, .int .i64 v.x, .int .i64 v.y, .string ⟨v.ps.toArray⟩] 2 (Nat.zero_le _) (by decide) rfl).cells (g:=w.heap.size) rfl j x (by simpa [icells] using hx)
 exact this
theorem lays_two {w:World} {B:Nat} {A:Option Addr} {code:List In} (h:WrtA w B A code) (u v:In) (hb:code.length≤4000) :
  Calls Tryz.prog 46 #[.pointer (some ⟨B,0,none⟩), .slice (some ⟨w.heap.size,0,none⟩) 2 2] (w.alloc (.cells #[.int .i64 u.op, .int .i64 u.x, .int .i64 u.y, .string ⟨u.ps.toArray⟩, .int .i64 v.op, .int .i64 v.x, .int .i64 v.y, .string ⟨v.ps.toArray⟩] 85)) fun e w'=>e= .returned (.int .i64 code.length)∧∃A',WrtA w' B A' (code++[u,v])∧WX B w (blk A) w' (blk A'):=by
 have g:=Gr.alloc (Gr.refl w) (.cells #[.int .i64 u.op, .int .i64 u.x, .int .i64 u.y, .string ⟨u.ps.toArray⟩, .int .i64 v.op, .int .i64 v.x, .int .i64 v.y, .string ⟨v.ps.toArray⟩] 85)
 refine (lays_any (h.gr g) _ 2 2 [u,v] rfl (by decide) (Rd.two w u v) (by omega)).mono ?_
 rintro e w' ⟨he,A',h1,h2⟩
 exact ⟨he,A',h1,(WX.gr _ g).trans h2⟩
theorem RetC.err {w w':World} {l:List UInt8} {n:Int} (h:errX l=n) (hn:(n==0)=false) (g:Gr w w'):RetC w l (.returned (.tuple #[.agg #[.int .i64 0, .slice none 0 0], .int .i64 n])) w':=by
 refine ⟨none,0,?_,?_,g,fun ad h=>by cases h⟩
 ·
  simp[grpX,codeY,h,hn]
 ·
  have:codeY l=[]:=by simp[codeY,h,hn]
  rw[this]
  exact Rd.nil _ _ _
theorem WX.gr_new {B:Nat} {w5 w1 w2:World} {g g2:Option Nat} (h:WX B w1 g w2 g2) (hw:Gr w5 w1) (hB:w5.heap.size≤B) (hg:∀k,g=some k→w5.heap.size≤k):Gr w5 w2:=
 ⟨h.os.trans hw.os,h.tape.trans hw.tape,h.output.trans hw.output,Nat.le_trans hw.size h.size,fun k hk=>(h.block k (Nat.lt_of_lt_of_le hk hw.size) (by omega) (fun e=>by have:=hg k e;omega)).trans (Below.block hw k hk)⟩
theorem lays_first (w:World):Calls Tryz.prog 46 #[.pointer (some ⟨w.heap.size,0,none⟩), .slice (some ⟨w.heap.size+1,0,none⟩) 1 1] ((w.alloc (.cells #[.slice none 0 0] 82)).alloc (.cells #[.int .i64 4, .int .i64 0, .int .i64 0, .string ⟨#[]⟩] 85)) fun e w'=>
  e= .returned (.int .i64 0)∧∃A',WrtA w' w.heap.size A' [⟨4,0,0,[]⟩]∧WX w.heap.size (w.alloc (.cells #[.slice none 0 0] 82)) none w' (blk A'):=by
 have h:=lays_one (wrt_new w) ⟨4,0,0,[]⟩ (by simp)
 have hz:(w.alloc (.cells #[.slice none 0 0] 82)).heap.size=w.heap.size+1:=by simp
 rw[hz] at h
 exact h
def WayOk (s:ByteArray):Prop:=∀w:World,Calls Tryz.prog 45 #[.pointer (some ⟨w.heap.size,0,none⟩)] (w.alloc (.cells #[.string s, .int .i64 0, .int .i64 0, .int .i64 0, .bool false, .bool false] 77)) fun e w'=>
   ∃(b n:Nat),e= .returned (.pointer (some ⟨b,0,none⟩))∧(readS s.data.toList).1.In w.heap.size w'.heap.size w' b∧Gr w w'∧Rdr w' w.heap.size s n (readS s.data.toList).2
theorem comp_ok (s:ByteArray) (hs:s.size≤500) (w:World) (hWR:WayOk s) (hKP:KP (readS s.data.toList).1) (hv:(readS s.data.toList).2.over=false) (hb:(readS s.data.toList).2.bad=false) (hr:(readS s.data.toList).2.rest=[]):Calls Tryz.prog 23 #[.string s] w (RetC w s.data.toList):=by
 have hE:errX s.data.toList=0:=by simp[errX,hv,hb,hr]
 have HE:=Lib.hid hE
 have hsz:=readS_sz (s:=s.data.toList) (by simp;exact hs)
 have HG:=Lib.hid (And.intro (by simp[grpX,hE]:grpX s.data.toList=(readS s.data.toList).2.groups) (by simp[codeY,hE,codeX]:codeY s.data.toList=⟨4,0,0,[]⟩::((readS s.data.toList).1.lay 1++[⟨4,1,0,[]⟩,⟨7,0,0,[]⟩])))
 have hs1:(s.size:Int)≤500:=by omega
 obtain ⟨q,hq⟩:∃q,q=(readS s.data.toList).2:=⟨_,rfl⟩
 obtain ⟨p,hp⟩:∃p,p=(readS s.data.toList).1:=⟨_,rfl⟩
 rw[←hq] at hv hb hr HG
 rw[←hp] at HG hsz hKP
 have HKP:=Lib.hid hKP
 clear hKP
 obtain ⟨hsz1,hsz2⟩:=hsz
 have Hok:=Lib.hid hsz2
 clear hE hsz2
 have Hq:=Lib.hid (And.intro hq hp)
 have HW:=hWR (w.alloc (.cells #[.int .i64 0, .slice none 0 0] 55))
 clear hWR
 rw[←hq,←hp] at HW
 have hzz:(w.alloc (.cells #[.int .i64 0, .slice none 0 0] 55)).heap.size=w.heap.size+1:=by simp
 rw[hzz] at HW
 clear hzz
 clear hq hp
 go_enter Tryz.func23,Tryz.ntmps23
 go_upto_region 5 with (go_at_call 45;refine HW.mono ?_;rintro e w3 ⟨b,m,rfl,hin,hg3,hR⟩)
 clear HW
 obtain ⟨c0,c1,c2,c4,c5⟩:=And.intro hR.c0 (And.intro hR.c1 (And.intro hR.c2 (And.intro hR.c4 hR.c5)))
 have hrz:=hR.lt
 have hrl:=hR.len
 have Hin:=Lib.hid (And.intro hin hR)
 have hz3:w.heap.size+1≤w3.heap.size:=by have:=hg3.size;simp at this;omega
 have hcb0:w3.cell? ⟨w.heap.size,0,none⟩=some (.int .i64 0):=(hg3.cell (p:=⟨w.heap.size,0,none⟩) (by simp)).trans (by go_simp)
 have hcb1:w3.cell? ⟨w.heap.size,1,none⟩=some (.slice none 0 0):=(hg3.cell (p:=⟨w.heap.size,1,none⟩) (by simp)).trans (by go_simp)
 have hfb0:w3.frozen? ⟨w.heap.size,0,none⟩=false:=(hg3.frozen (p:=⟨w.heap.size,0,none⟩) (by simp)).trans (by go_simp)
 have hfb1:w3.frozen? ⟨w.heap.size,1,none⟩=false:=(hg3.frozen (p:=⟨w.heap.size,1,none⟩) (by simp)).trans (by go_simp)
 clear hin hR
 rw[hv] at c5
 rw[hb] at c4
 have hm:decide (m<s.size)=false:=by rw[hr] at hrl;simp at hrl ⊢;omega
 clear hv hb hrl hr
 go_upto_region 7 with (fail)
 clear c5
 refine region_R (by kernel_rfl) (by kernel_rfl) ?_
 iterate 3 (refine rv ?_;simp only[Pu])
 refine r_val (v:=?qv39) (by kernel_rfl) (fun W hW=>?qh39) ?qr39
 case qh39=>have g1:=(Below.cell hW (p:=⟨w.heap.size+1,4,none⟩) hrz).trans c4;go_light;go_simp;rfl
 simp only[Pu]
 iterate 5 (refine rv ?_;simp only[Pu])
 refine r_val (v:=?qv45) (by kernel_rfl) (fun W hW=>?qh45) ?qr45
 case qh45=>have g1:=(Below.cell hW (p:=⟨w.heap.size+1,1,none⟩) hrz).trans c1;go_light;go_simp;rfl
 simp only[Pu]
 iterate 4 (refine rv ?_;simp only[Pu])
 refine r_val (v:=?qv50) (by kernel_rfl) (fun W hW=>?qh50) ?qr50
 case qh50=>have g1:=(Below.cell hW (p:=⟨w.heap.size+1,0,none⟩) hrz).trans c0;go_light;go_simp;rfl
 simp only[Pu]
 iterate 4 (refine rv ?_;simp only[Pu])
 refine r_nil ?_
 intro w5 hw5
 have c0':=(Below.cell hw5 (p:=⟨w.heap.size+1,0,none⟩) hrz).trans c0
 have c2':=(Below.cell hw5 (p:=⟨w.heap.size+1,2,none⟩) hrz).trans c2
 have hb0':=(Below.cell hw5 (p:=⟨w.heap.size,0,none⟩) (by show w.heap.size<_;omega)).trans hcb0
 have hb1':=(Below.cell hw5 (p:=⟨w.heap.size,1,none⟩) (by show w.heap.size<_;omega)).trans hcb1
 have hf0':=(Below.frozen hw5 (p:=⟨w.heap.size,0,none⟩) (by show w.heap.size<_;omega)).trans hfb0
 have hf1':=(Below.frozen hw5 (p:=⟨w.heap.size,1,none⟩) (by show w.heap.size<_;omega)).trans hfb1
 have hg9:=hg3.trans hw5
 have hz5:w.heap.size+1<w5.heap.size:=Nat.lt_of_lt_of_le hrz hw5.size
 clear c0 c1 c2 c4 hcb0 hcb1 hfb0 hfb1
 clear hm c0'
 have Hg9:=Lib.hid (And.intro hg9 (And.intro hg3 hw5))
 have hz35:=hw5.size
 clear hg9 hg3 hw5
 go_upto_region 11 with (go_at_call 46;refine (lays_first w5).mono ?_;rintro e w6 ⟨rfl,A6,hB6,hX6⟩)
 obtain ⟨B,hB⟩:∃B,B=w5.heap.size:=⟨_,rfl⟩
 rw[←hB] at hB6 hX6 ⊢
 have hx6:WX B (w5.alloc (.cells #[.slice none 0 0] 82)) none w6 (blk A6):=hX6
 have hg6:Gr w5 w6:=hx6.gr_new (Gr.alloc (Gr.refl _) _) (by omega) (fun k h=>by cases h)
 have hS6:Same (w.heap.size+1) w3.heap.size w3 w6:=(Same.gr Hg9.out.2.2 (Nat.le_refl _)).trans (Same.gr hg6 hz35)
 have HP:=HKP.out w6 B A6 [⟨4,0,0,[]⟩] b (w.heap.size+1) w3.heap.size hB6 (Pc.In.same hS6 _ _ Hin.out.1) (by omega) (by decide) (by simp;omega) Hok.out
 have Hh6:=Lib.hid (And.intro hx6 hB6)
 have HB:=Lib.hid hB
 have hB5:w5.heap.size≤B:=Nat.le_of_eq hB.symm
 clear hx6 hg6 hS6 hX6 hB6 hB
 go_upto_region 12 with (go_at_call 47;refine HP.mono ?_;rintro e w7 ⟨rfl,A7,hB7,hX7⟩)
 clear HP
 obtain ⟨code7,hc7⟩:∃c:List In,c=[⟨4,0,0,[]⟩]++p.lay ([⟨4,0,0,[]⟩]:List In).length:=⟨_,rfl⟩
 rw[←hc7] at hB7
 have hl7:code7.length≤1001:=by rw[hc7,List.length_append,Pc.lay_len];simp;omega
 have Hc7:=Lib.hid hc7
 clear hc7
 go_upto_region 13 with (go_at_call 46;refine (lays_two hB7 ⟨4,1,0,[]⟩ ⟨7,0,0,[]⟩ (by omega)).mono ?_;rintro e w8 ⟨rfl,A8,hB8,hX8⟩)
 obtain ⟨code8,hc8⟩:∃c:List In,c=code7++[⟨4,1,0,[]⟩,⟨7,0,0,[]⟩]:=⟨_,rfl⟩
 rw[←hc8] at hB8
 have hful:decide (1024<(code8.length:Int))=false:=by rw[hc8];simp;omega
 have Hc8:=Lib.hid hc8
 have hX:=(Hh6.out.1.trans hX7).trans hX8
 have hg8:Gr w5 w8:=hX.gr_new (Gr.alloc (Gr.refl _) _) (by omega) (fun k h=>by cases h)
 have d2:=(hg8.cell (p:=⟨w.heap.size+1,2,none⟩) hz5).trans c2'
 have e0:=(hg8.cell (p:=⟨w.heap.size,0,none⟩) (by show w.heap.size<_;omega)).trans hb0'
 have e1:=(hg8.cell (p:=⟨w.heap.size,1,none⟩) (by show w.heap.size<_;omega)).trans hb1'
 have f0:=(hg8.frozen (p:=⟨w.heap.size,0,none⟩) (by show w.heap.size<_;omega)).trans hf0'
 have f1:=(hg8.frozen (p:=⟨w.heap.size,1,none⟩) (by show w.heap.size<_;omega)).trans hf1'
 have hz8:w.heap.size+1<w8.heap.size:=Nat.lt_of_lt_of_le hz5 hg8.size
 have Hg8:=Lib.hid (And.intro hg8 hB8)
 clear hc8 hB7 hX7 hX8 hX hg8 c2' hb0' hb1' hf0' hf1'
 go_upto_region 15 with (go_at_call 48;refine (full_any hB8).mono ?_;rintro e w8' ⟨rfl,rfl⟩)
 clear hful
 obtain ⟨c8,hw8, -⟩:=id hB8
 have hb8:=hB8.lt
 clear hB8
 refine region_T 9 (by kernel_rfl) (by kernel_rfl) ?_
 simp only[List.take]
 iterate 3 (refine qv ?_;simp only[Pu])
 refine q_val (v:=?qv30) (by rfl) (fun W hW=>?qh30) ?qr30
 case qh30=>have g1:=(Below.cell hW (p:=⟨w.heap.size+1,2,none⟩) hz8).trans d2;go_simp;rfl
 simp only[Pu]
 iterate 3 (refine qv ?_;simp only[Pu])
 refine q_val (v:=?qv34) (by rfl) (fun W hW=>?qh34) ?qr34
 case qh34=>have g1:=(Below.cell hW (p:=⟨B,0,none⟩) hb8).trans hw8;go_simp;rfl
 simp only[Pu]
 refine qv ?_;simp only[Pu]
 refine wpQuiet_nil ?_
 intro w9 hw9
 simp only[List.drop]
 have k0:=(Below.cell hw9 (p:=⟨w.heap.size,0,none⟩) (by show w.heap.size<_;omega)).trans e0
 have k1:=(Below.cell hw9 (p:=⟨w.heap.size,1,none⟩) (by show w.heap.size<_;omega)).trans e1
 have l0:=(Below.frozen hw9 (p:=⟨w.heap.size,0,none⟩) (by show w.heap.size<_;omega)).trans f0
 have l1:=(Below.frozen hw9 (p:=⟨w.heap.size,1,none⟩) (by show w.heap.size<_;omega)).trans f1
 have hz9:w.heap.size+1<w9.heap.size:=Nat.lt_of_lt_of_le hz8 hw9.size
 clear d2 e0 e1 f0 f1 hw8
 go_wp2
 refine bodyPost_ret (v:= .tuple #[.agg #[.int .i64 q.groups, .slice A8 code8.length c8], .int .i64 0]) (by simp[results,Tryz.results23,go_sem, *]) rfl ?_
 have hcode:code8=codeY s.data.toList:=by rw[Hc8.out,Hc7.out,HG.out.2];simp
 obtain ⟨hg8,hB8⟩:=Hg8.out
 obtain ⟨c', -, -,own, -⟩:=hB8.gr hw9
 have hgw:Gr w w9:=((Gr.alloc (Gr.refl w) _).trans Hg9.out.1).trans (hg8.trans hw9)
 refine ⟨A8,c8,?_,?_,(hgw.setCell (by simp) _).setCell (by simp) _,fun ad h=>?_⟩
 ·
  rw[HE.out,HG.out.1,hcode]
 ·
  rw[←hcode]
  exact Rd.own (own_setX (own_setX own (p:=⟨w.heap.size,0,none⟩) (by show w.heap.size<_;omega) _) (p:=⟨w.heap.size,1,none⟩) (by show w.heap.size<_;omega) _)
 ·
  have h5:=(own.lt ad.block (by rw[h];rfl)).1
  obtain ⟨g,hg⟩:=hB8.form (by rw[Hc8.out];simp)
  rw[hg] at h
  injection h with h
  subst h
  exact ⟨rfl,by have h6:B+1≤g:=h5;show w.heap.size≤g;omega⟩
mutual
def Pc.pk:Pc→Prop
 | .leaf _ ps=>ps.length≤600
 | .row l=>l.pk
 | .ways l=>l.pk
 | .group _ k=>k.pk
 | .rep _ _ k=>k.pk
def PcL.pk:PcL→Prop
 | .nil=>True
 | .cons p l=>p.pk∧l.pk
end
def PkI (l:List In):Prop:=∀v∈l,v.ps.length≤600
theorem PkI.app {l m:List In} (h:PkI l) (k:PkI m):PkI (l++m):=fun v hv=>by
 rcases List.mem_append.1 hv with h1|h1
 ·
  exact h v h1
 ·
  exact k v h1
theorem PkI.cons {v:In} {m:List In} (h:v.ps.length≤600) (k:PkI m):PkI (v::m):=fun u hu=>by
 rcases List.mem_cons.1 hu with h1|h1
 ·
  rw[h1];exact h
 ·
  exact k u h1
theorem PkI.nil:PkI []:=fun v hv=>by cases hv
theorem splitI_pk (z:Bool) (a b:Nat):(splitI z a b).ps.length≤600:=by cases z<;>simp[splitI]
mutual
theorem Pc.lay_pk (p:Pc):∀at_,p.pk→PkI (p.lay at_):=by
 intro at_ h
 match p,h with
 | .leaf op ps,h=>exact PkI.cons h PkI.nil
 | .row l,h=>exact PcL.layR_pk l at_ h
 | .ways l,h=>exact PcL.layW_pk l at_ _ h
 | .group g k,h=>
  simp only[Pc.lay]
  cases (g==0)
  ·
   simp only[cond_false]
   exact PkI.cons (by simp) ((Pc.lay_pk k _ h).app (PkI.cons (by simp) PkI.nil))
  ·
   simp only[cond_true]
   exact Pc.lay_pk k _ h
 | .rep op z k,h=>
  simp only[Pc.lay]
  cases (op==42)
  ·
   simp only[cond_false]
   cases (op==43)
   ·
    simp only[cond_false]
    exact PkI.cons (splitI_pk _ _ _) (Pc.lay_pk k _ h)
   ·
    simp only[cond_true]
    exact (Pc.lay_pk k _ h).app (PkI.cons (splitI_pk _ _ _) PkI.nil)
  ·
   simp only[cond_true]
   exact PkI.cons (splitI_pk _ _ _) ((Pc.lay_pk k _ h).app (PkI.cons (by simp) PkI.nil))
theorem PcL.layR_pk (l:PcL):∀at_,l.pk→PkI (l.layR at_):=by
 intro at_ h
 match l,h with
 | .nil,_=>exact PkI.nil
 | .cons p l,h=>
  simp only[PcL.layR]
  exact (Pc.lay_pk p _ h.1).app (PcL.layR_pk l _ h.2)
theorem PcL.layW_pk (l:PcL):∀at_ e,l.pk→PkI (l.layW at_ e):=by
 intro at_ e h
 match l,h with
 | .nil,_=>exact PkI.nil
 | .cons p .nil,h=>exact Pc.lay_pk p _ h.1
 | .cons p (.cons q l),h=>
  simp only[PcL.layW]
  exact PkI.cons (by simp) ((Pc.lay_pk p _ h.1).app (PkI.cons (by simp) (PcL.layW_pk (.cons q l) _ _ h.2)))
end
theorem pairsS_len (f:Bs):(pairsS f).length≤600:=by
 have:=pairsT_len f 256
 unfold pairsS
 omega
theorem failS_pk (s:Rs):(failS s).1.pk:=trivial
theorem setS_pk (s:Rs) (x:Option Bs×List UInt8):(setS s x).1.pk:=by
 obtain ⟨_|f,q⟩:=x
 ·
  exact failS_pk _
 ·
  exact pairsS_len f
section
variable {W:Rs→Pc×Rs} (hW:∀s,(W s).1.pk)
include hW
theorem groupS_pk (s:Rs):(groupS W s).1.pk:=by
 unfold groupS
 cases Nat.ble 64 s.deep
 ·
  simp only[cond_false]
  cases ((W (openS {s with deep:=s.deep+1}).2).2.bad || !headIs 41 (W (openS {s with deep:=s.deep+1}).2).2.rest)
  ·
   exact hW _
  ·
   exact failS_pk _
 ·
  exact failS_pk _
theorem atomS_pk (s:Rs):(atomS W s).1.pk:=by
 unfold atomS
 split
 ·
  exact failS_pk _
 ·
  rename_i c r hr
  cases (c.toNat==40)
  rotate_left
  ·
   exact groupS_pk hW _
  cases (c.toNat==94)
  rotate_left
  ·
   exact Nat.zero_le _
  cases (c.toNat==36)
  rotate_left
  ·
   exact Nat.zero_le _
  cases (c.toNat==46)
  rotate_left
  ·
   exact pairsS_len _
  cases (c.toNat==91)
  rotate_left
  ·
   exact setS_pk _ _
  cases (c.toNat==92)
  rotate_left
  ·
   exact setS_pk _ _
  cases stopC c.toNat
  ·
   exact pairsS_len _
  ·
   exact failS_pk _
theorem pieceS_pk (s:Rs):(pieceS W s).1.pk:=by
 have h0:=atomS_pk hW s
 unfold pieceS
 generalize atomS W s=t at h0 ⊢
 simp only
 cases t.2.bad
 ·
  simp only[cond_false]
  split
  ·
   exact h0
  ·
   rename_i d q _
   cases repC d.toNat
   ·
    exact h0
   ·
    exact h0
 ·
  exact h0
theorem rowS_pk (k:Nat):∀s,(rowS W k s).1.pk:=by
 induction k with
 | zero=>intro s;trivial
 | succ k ih=>
  intro s
  unfold rowS
  cases (s.bad||endR s.rest)
  ·
   exact ⟨pieceS_pk hW s,ih _⟩
  ·
   trivial
theorem altS_pk (k:Nat):∀s,(altS W k s).1.pk:=by
 induction k with
 | zero=>intro s;trivial
 | succ k ih=>
  intro s
  unfold altS
  simp only
  cases (!(rowP W s).2.bad&&headIs 124 (rowP W s).2.rest)
  ·
   exact ⟨rowS_pk hW _ s,trivial⟩
  ·
   exact ⟨rowS_pk hW _ s,ih _⟩
end
theorem lone_pk {l:PcL} (h:l.pk):(lone l).pk:=by
 match l,h with
 | .nil,_=>trivial
 | .cons p .nil,h=>exact h.1
 | .cons p (.cons q m),h=>exact h
theorem waysS_pk (n:Nat):∀s,(waysS n s).1.pk:=by
 induction n with
 | zero=>intro s;exact failS_pk s
 | succ n ih=>intro s;exact lone_pk (altS_pk ih _ s)
theorem code_sizes {l:List UInt8} (h:l.length≤500):(codeY l).length≤2000∧grpX l≤1000∧∀v∈codeY l,v.ps.length≤100000:=by
 have h1:=(readS_sz h).1
 have h2:=waysS_gd (l.length+1) ⟨l,0,0,false,false⟩
 have h3:=waysS_pk (l.length+1) ⟨l,0,0,false,false⟩
 have hg:=h2.g
 simp only at hg
 refine ⟨?_,?_,fun v hv=>?_⟩
 ·
  unfold codeY
  cases (errX l==0)
  ·
   simp
  ·
   simp only[cond_true,codeX,List.length_cons,List.length_append,Pc.lay_len,List.length_nil]
   omega
 ·
  unfold grpX
  cases (errX l==0)
  ·
   simp
  ·
   simp only[cond_true,readS]
   omega
 ·
  have:PkI (codeY l):=by
   unfold codeY
   cases (errX l==0)
   ·
    exact PkI.nil
   ·
    simp only[cond_true,codeX]
    exact PkI.cons (by simp) ((Pc.lay_pk _ _ h3).app (PkI.cons (by simp) (PkI.cons (by simp) PkI.nil)))
  have:=this v hv
  omega
end Go.Proofs.YtnphdacibageiaaGreat
