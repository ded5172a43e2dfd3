import Derived.Test.YtjapddfnpmlifaaGreatDoorRunRpLin
import Derived.Test.YtjapddfnpmlifaaGreatDoorRunPkRep
set_option linter.all false
set_option maxRecDepth 1000000
set_option maxHeartbeats 12800000
namespace Go.Proofs.YtjapddfnpmlifaaGreatDoor
open Go.RowKit
structure Qs where
 pat:ByteArray
 ar:List (Nat×Nat)
 A:Option Addr
 c:Nat
def Qs.cs (s:Qs):List Value:=[.string s.pat, .slice s.A s.ar.length s.c]
def qscells (l:List Qs):List Value:=l.flatMap Qs.cs
def Qs.p (s:Qs):SR:=⟨s.pat.data.toList,s.ar⟩
structure Qr where
 pat:ByteArray
 kind:Int
 xff:Int
def Qr.cs (s:Qr):List Value:=[.string s.pat, .int .i64 s.kind, .int .i64 s.xff]
def qrcells (l:List Qr):List Value:=l.flatMap Qr.cs
def Qr.p (s:Qr):RR:=⟨s.pat.data.toList,s.kind,s.xff⟩
def scP (s:Sc):SR:=⟨s.pat.data.toList,s.ar⟩
def ruQ (s:Ru):Qr:=⟨s.pat,s.kind,s.xff⟩
theorem qscells_at (l:List Qs):∀(k:Nat) (h:k<l.length),(qscells l)[k*2]?=some (.string l[k].pat)/\(qscells l)[k*2+1]?=some (.slice l[k].A l[k].ar.length l[k].c):=by
 induction l with
 | nil=>intro k h;simp at h
 | cons v l ih=>
  intro k h;match k with
  | 0=>exact ⟨rfl,rfl⟩
  | k+1=>
   have:=ih k (by simpa using h);rw[show (k+1)*2=k*2+1+1 by omega];exact this
theorem qrcells_at (l:List Qr):∀(k:Nat) (h:k<l.length),(qrcells l)[k*3]?=some (.string l[k].pat)/\(qrcells l)[k*3+1]?=some (.int .i64 l[k].kind)/\(qrcells l)[k*3+2]?=some (.int .i64 l[k].xff):=by
 induction l with
 | nil=>intro k h;simp at h
 | cons v l ih=>
  intro k h;match k with
  | 0=>exact ⟨rfl,rfl,rfl⟩
  | k+1=>
   have:=ih k (by simpa using h);rw[show (k+1)*3=k*3+1+1+1 by omega];exact this
theorem qs_snoc (l:List Qs) (s:Qs):qscells (l++[s])=qscells l++s.cs:=by simp[qscells]
theorem qr_snoc (l:List Qr) (s:Qr):qrcells (l++[s])=qrcells l++s.cs:=by simp[qrcells]
theorem info_qs:(Tryz.prog.info? 48).map (λi=>(i.zero,i.size,i.bytes))=some (some (.agg #[.string ByteArray.empty, .slice none 0 0]),2,40):=by kernel_rfl
theorem info_qr:(Tryz.prog.info? 51).map (λi=>(i.zero,i.size,i.bytes))=some (some (.agg #[.string ByteArray.empty, .int .i64 0, .int .i64 0]),3,32):=by kernel_rfl
structure GtS (W1:World) (L:List SR) (wr:World) (v:Value) (k:Nat) (q:List Qs):Prop where
 gr:Gr W1 wr
 eq:q.map Qs.p=L.take k
 own:wr.ownsRow W1.heap.size 48 2 v k (qscells q)
 kp:∃K:List Nat,(∀b∈K,b<wr.heap.size/\v.ownBlock≠some b)/\∀W',(∀b∈K,W'.heap[b]?=wr.heap[b]?)->∀s∈q,Ra W' s.A s.ar
theorem take_snoc {α β:Type} {f:α->β} {q:List α} {L:List β} {k:Nat} (h:q.map f=L.take k) (hk:k<L.length) {s:α} (hs:f s=L[k]):(q++[s]).map f=L.take (k+1):=by
 rw[List.map_append,h,List.take_add_one,List.getElem?_eq_getElem hk,<-hs];rfl
theorem GtS.push {W1:World} {L:List SR} {wr:World} {v:Value} {k:Nat} {q:List Qs} (h:GtS W1 L wr v k q) {V W9:World} (gV:Gr wr V) (s:Qs) {v9:Value} (own9:W9.ownsRow W1.heap.size 48 2 v9 (k+1) (qscells q++s.cs)) (hg:V.grownBy W9 v.ownBlock)
  (hob:v9.ownBlock=v.ownBlock\/v9.ownBlock=some V.heap.size) (hra:Ra V s.A s.ar) (hfa:∀ad,s.A=some ad->wr.heap.size<=ad.block) (hk:k<L.length) (hs:s.p=L[k]):GtS W1 L W9 v9 (k+1) (q++[s]):=by
 obtain ⟨K,hK,hF⟩:=h.kp;have hzV:=gV.size;have hz9:V.heap.size<=W9.heap.size:=hg.size;have hol:∀b,v.ownBlock=some b->W1.heap.size<=b/\b<wr.heap.size:=h.own.lt;refine ⟨Gr.grown (h.gr.trans gV) hg λb hb=>(hol b hb).1,take_snoc h.eq hk hs,by rw[qs_snoc];exact own9,K++blkL s.ar.length s.A,λb hb=>?_,λW' hW z hz=>?_⟩
 ·have key:b<V.heap.size/\v.ownBlock≠some b:=by
   rcases List.mem_append.1 hb with hb|hb
   ·exact ⟨Nat.lt_of_lt_of_le (hK b hb).1 hzV,(hK b hb).2⟩
   ·exact ⟨hra.lt b hb,λe=>by have:=(hol b e).2;have:=blk_ge hfa b hb;omega⟩
  refine ⟨Nat.lt_of_lt_of_le key.1 hz9,λe=>?_⟩;rcases hob with ho|ho
  ·exact key.2 (ho▸e)
  ·rw[ho] at e;injection e with e;omega
 ·rcases List.mem_append.1 hz with hz|hz
  ·exact hF W' (λb hb=>(hW b (List.mem_append_left _ hb)).trans ((hg.block b (Nat.lt_of_lt_of_le (hK b hb).1 hzV) (λe=>(hK b hb).2 e.symm)).trans (Below.block gV b (hK b hb).1))) z hz
  ·rw[List.mem_singleton] at hz;subst hz;exact hra.same λb hb=>(hW b (List.mem_append_right _ hb)).trans (hg.block b (hra.lt b hb) (λe=>by have:=(hol b e.symm).2;have:=blk_ge hfa b hb;omega))
def RqM (w:World) (R B0:Nat) (W:World) (l:List Qs) (m:List Qr) (v1 v2:Value):Prop:=Two w R B0 48 51 2 3 W v1 v2 l.length m.length (qscells l) (qrcells m) (λW=>∀s∈l,Ra W s.A s.ar)
theorem RqM.pushS {w:World} {R B0:Nat} {W:World} {l:List Qs} {m:List Qr} {v1 v2:Value} (h:RqM w R B0 W l m v1 v2) {V W9:World} (gV:Gr W V) (s:Qs) {v9:Value} (own9:W9.ownsRow B0 48 2 v9 (l.length+1) (qscells l++s.cs)) (hg:V.grownBy W9 v1.ownBlock)
  (hob:v9.ownBlock=v1.ownBlock\/v9.ownBlock=some V.heap.size) (hra:Ra V s.A s.ar) (hfa:∀ad,s.A=some ad->W.heap.size<=ad.block):RqM w R B0 (W9.setCell ⟨R,0,none⟩ v9) (l++[s]) m v9 v2/\∀k,k<B0->k≠R->(W9.setCell ⟨R,0,none⟩ v9).heap[k]?=W.heap[k]?:=by
 obtain ⟨k1,k2⟩:=Two.push1 h gV own9 hg hob (G:=λW=>Ra W s.A s.ar) (blkL s.ar.length s.A) (λb hb=>⟨blk_ge hfa b hb,hra.lt b hb⟩) (λW' hW=>hra.same hW);refine ⟨?_,k2⟩;unfold RqM;rw[show (l++[s]).length=l.length+1 by simp,qs_snoc];exact k1.imp λW hw z hz=>(by rcases List.mem_append.1 hz with hz|hz;exact hw.1 z hz;rw[List.mem_singleton] at hz;subst hz;exact hw.2)
theorem RqM.pushR {w:World} {R B0:Nat} {W:World} {l:List Qs} {m:List Qr} {v1 v2:Value} (h:RqM w R B0 W l m v1 v2) {V W9:World} (gV:Gr W V) (s:Qr) {v9:Value} (own9:W9.ownsRow B0 51 3 v9 (m.length+1) (qrcells m++s.cs)) (hg:V.grownBy W9 v2.ownBlock)
  (hob:v9.ownBlock=v2.ownBlock\/v9.ownBlock=some V.heap.size):RqM w R B0 (W9.setCell ⟨R,1,none⟩ v9) l (m++[s]) v1 v9/\∀k,k<B0->k≠R->(W9.setCell ⟨R,1,none⟩ v9).heap[k]?=W.heap[k]?:=by
 obtain ⟨k1,k2⟩:=Two.push2 h gV own9 hg hob (G:=λ_=>True) [] (λb hb=>(by cases hb)) (λ_ _=>trivial);refine ⟨?_,k2⟩;unfold RqM;rw[show (m++[s]).length=m.length+1 by simp,qr_snoc];exact k1.imp λW hw=>hw.1
theorem Ra.rd {w:World} {A:Option Addr} {l:List (Nat×Nat)} (h:Ra w A l):Rd w 2 A l.length (acells l):=by
 refine ⟨acells_length l,λh0=>?_⟩;obtain ⟨b,e,hb,hc⟩:=h h0;refine ⟨⟨b,0,none⟩,e,hb,λj u hu=>?_⟩;have ea:(⟨b,0,none⟩:Addr).add j=⟨b,j,none⟩:=by
  unfold Addr.add;split
  ·rename_i h;subst h;rfl
  ·rw[Nat.zero_add]
 rw[ea];have hj:j<l.length*2:=by
  rcases Nat.lt_or_ge j (l.length*2) with h|h
  ·exact h
  ·rw[List.getElem?_eq_none (by rw[acells_length];exact h)] at hu;cases hu
 obtain ⟨k,hk|hk⟩:∃k,j=k*2\/j=k*2+1:=⟨j/2,by omega⟩
 ·subst hk;rw[(acells_at l k (by omega)).1] at hu;injection hu with hu;rw[<-hu];exact (hc k (by omega)).1
 ·subst hk;rw[(acells_at l k (by omega)).2] at hu;injection hu with hu;rw[<-hu];exact (hc k (by omega)).2
theorem aclone_any (A:Option Addr) (c:Nat) (l:List (Nat×Nat)) (h0:0<l.length) (hl:l.length<=1000) (w:World) (hr:Ra w A l) :
  Calls Tryz.prog 23 #[.slice A l.length c] w λe w'=>∃A' c',e= .returned (.slice A' l.length c')/\Ra w' A' l/\Gr w w'/\∀ad,A'=some ad->w.heap.size<=ad.block:=by
 obtain ⟨b,e,hb,hc⟩:=hr h0;subst e;obtain ⟨i0,hi,hz0,hz1,hz2⟩:=info_parts info_arch;have hown0:(w.alloc (.cells #[] 34)).ownsRow w.heap.size 34 2 (.slice (some ⟨w.heap.size,0,none⟩) 0 0) 0 []:=World.ownsRow_lit w #[] 0 (Nat.le_refl _) (Nat.zero_le _) rfl;have hr0:=hr.rd.gr (Gr.alloc (Gr.refl w) (.cells #[] 34));have q22:∀(w:World) (a:Option Addr) (n c n' c':Nat),(binOp .eql 27 (.slice a n c) (.slice none n' c')).run Tryz.prog w= .ok (.bool a.isNone) w:=λw a n c n' c'=>Lib.run_eql_slice_nil w _ _ a n c n' c' Tryz.underlying27;clear hc hr;go_enter Tryz.func23,Tryz.ntmps23;go_wp2_with (at_builtin;refine wpList_append_rd rfl (.tmp 5) (.tmp 6) 27 rfl w.heap.size 34 i0 _ 2 16 Tryz.underlying27 hi hz0 hz1 hz2 rfl (by decide) _ _ _ rfl hown0 (some ⟨b,0,none⟩) l.length c (acells l) rfl hr0 (acells_one _) (by unfold maxLen;omega) (by omega) (by simp) ?_;intro v' w2 hown2 hgr2 hat2);have hg2:Gr w w2:=Gr.grown (Gr.alloc (Gr.refl w) _) hgr2 (λk hk=>by have h:some w.heap.size=some k:=hk;injection h with h;omega);rw[Nat.zero_add,List.nil_append] at hown2;obtain ⟨A',c',hv⟩:=own_form hown2;subst hv;clear hgr2 hat2 hown0 hr0;go_wp2;go_ret;exact ⟨A',c',rfl,Ra.own hown2,hg2,λad h=>(hown2.lt ad.block (by rw[h];rfl)).1⟩
theorem hclo_any (pat:ByteArray) (n c G m pc B:Nat) (A P:Option Addr) (code:List In) (nm:ByteArray) (w:World) (hm:m=code.length) (hm2:code.length<=2000) (hG:G<=1000) (hps:∀v∈code,v.ps.length<=100000) (hs:(nm.size:Int)<=4096)
  (n0:w.cell? ⟨B,0,none⟩=some (.string nm)) (hB:B<w.heap.size) (hr:Ri w P code) :
  Calls Tryz.prog 21 #[.agg #[.string pat, .slice A n c, .int .i64 (G:Nat), .slice P m pc], .pointer (some ⟨B,0,none⟩)] w λe w'=>e= .returned (.bool (isC code nm.data.toList))/\Gr w w':=by
 have gV:Gr w (w.alloc (.cells #[.string pat, .slice A n c, .int .i64 (G:Nat), .slice P m pc] 73)):=Gr.alloc (Gr.refl w) _;have HI:=Lib.hid (pis_any G m pc P code nm hm (by omega) hG hs hps _ (Rd.gr hr gV));have GV:=Lib.hid gV;clear gV hr hps hm hm2 hG;go_enter Tryz.func21,Tryz.ntmps21;go_wp2_with (go_at_call 22;refine HI.out.mono ?_;rintro e w1 ⟨rfl,g1⟩;have G1:=Lib.hid g1;clear g1);go_ret;exact ⟨rfl,GV.out.trans G1.out⟩
theorem rclo_any (pat:ByteArray) (kd xf:Int) (G m pc B:Nat) (P:Option Addr) (code:List In) (nm:ByteArray) (w:World) (hm:m=code.length) (hm2:code.length<=2000) (hG:G<=1000) (hps:∀v∈code,v.ps.length<=100000) (hs:(nm.size:Int)<=4096)
  (n0:w.cell? ⟨B,0,none⟩=some (.string nm)) (hB:B<w.heap.size) (hr:Ri w P code) :
  Calls Tryz.prog 25 #[.agg #[.string pat, .int .i64 kd, .int .i64 xf, .int .i64 (G:Nat), .slice P m pc], .pointer (some ⟨B,0,none⟩)] w λe w'=>e= .returned (.bool (isC code nm.data.toList))/\Gr w w':=by
 have gV:Gr w (w.alloc (.cells #[.string pat, .int .i64 kd, .int .i64 xf, .int .i64 (G:Nat), .slice P m pc] 79)):=Gr.alloc (Gr.refl w) _;have HI:=Lib.hid (pis_any G m pc P code nm hm (by omega) hG hs hps _ (Rd.gr hr gV));have GV:=Lib.hid gV;clear gV hr hps hm hm2 hG;go_enter Tryz.func25,Tryz.ntmps25;go_wp2_with (go_at_call 22;refine HI.out.mono ?_;rintro e w1 ⟨rfl,g1⟩;have G1:=Lib.hid g1;clear g1);go_ret;exact ⟨rfl,GV.out.trans G1.out⟩
theorem sccells_at (l:List Sc):∀(k:Nat) (h:k<l.length),(sccells l)[k*4]?=some (.string l[k].pat)/\(sccells l)[k*4+1]?=some (.slice l[k].A l[k].ar.length l[k].c)/\(sccells l)[k*4+2]?=some (.int .i64 l[k].g)/\(sccells l)[k*4+3]?=some (.slice l[k].P l[k].code.length l[k].pc):=by
 induction l with
 | nil=>intro k h;simp at h
 | cons v l ih=>
  intro k h;match k with
  | 0=>exact ⟨rfl,rfl,rfl,rfl⟩
  | k+1=>
   have:=ih k (by simpa using h);rw[show (k+1)*4=k*4+1+1+1+1 by omega];exact this
theorem rucells_at (l:List Ru):∀(k:Nat) (h:k<l.length),(rucells l)[k*5]?=some (.string l[k].pat)/\(rucells l)[k*5+1]?=some (.int .i64 l[k].kind)/\(rucells l)[k*5+2]?=some (.int .i64 l[k].xff)/\(rucells l)[k*5+3]?=some (.int .i64 l[k].g)/\(rucells l)[k*5+4]?=some (.slice l[k].P l[k].code.length l[k].pc):=by
 induction l with
 | nil=>intro k h;simp at h
 | cons v l ih=>
  intro k h;match k with
  | 0=>exact ⟨rfl,rfl,rfl,rfl,rfl⟩
  | k+1=>
   have:=ih k (by simpa using h);rw[show (k+1)*5=k*5+1+1+1+1+1 by omega];exact this
def FirstP {α:Type} (p:α->Bool) (l:List α) (k:Int):Prop:=
 (k= -1/\∀s∈l,p s=false)\/∃(j:Nat) (h:j<l.length),k=j/\p l[j]=true/\∀i (hi:i<l.length),i<j->p l[i]=false
theorem FirstP.find {α:Type} {p:α->Bool} {l:List α} {k:Int} (h:FirstP p l k):(k= -1/\l.find? p=none)\/∃(j:Nat) (h:j<l.length),k=j/\l.find? p=some l[j]:=by
 rcases h with ⟨e,h⟩|⟨j,hj,e,h1,h2⟩
 ·exact .inl ⟨e,List.find?_eq_none.2 λs hs=>by rw[h s hs];simp⟩
 ·refine .inr ⟨j,hj,e,?_⟩;rw[List.find?_eq_some_iff_getElem];exact ⟨h1,j,hj,rfl,λi hi=>by rw[h2 i (by omega) hi];rfl⟩
theorem hidx_any (g c B:Nat) (l:List Sc) (hl:(l.length:Int)<=1000) (nm:ByteArray) (hs:(nm.size:Int)<=4096) (hp:∀s∈l,s.pat.size<=500) (w:World) (n0:w.cell? ⟨B,0,none⟩=some (.string nm)) (hB:B<w.heap.size) (hg:g<w.heap.size) (hr:∀j u,(sccells l)[j]?=some u->w.cell? ⟨g,j,none⟩=some u) (hri:∀s∈l,Ri w s.P s.code) :
  Calls Tryz.prog 20 #[.slice (some ⟨g,0,none⟩) l.length c, .func (.func 21) #[] #[.pointer (some ⟨B,0,none⟩)]] w λe w'=>∃k,e= .returned (.int .i64 k)/\FirstP (λs=>isC (Sc.code s) nm.data.toList) l k/\Gr w w':=by
 have HR:=Lib.hid (And.intro hg (And.intro hr hri));have HP:=Lib.hid hp;have HN:=Lib.hid n0;obtain ⟨n,hn⟩:∃n,n=l.length:=⟨_,rfl⟩
 rw[<-hn] at hl ⊢;have Hn:=Lib.hid hn;clear hr hp n0 hn hri;go_enter Tryz.func20,Tryz.ntmps20;go_wp2
 go_loopw [8] (λi wr=>∃k:Nat,k<=n/\i= .int .i64 k/\Gr w wr/\∀j (h:j<l.length),j<k->isC l[j].code nm.data.toList=false) (λi _=>n-(intOf i).toNat)
 case atStart=>exact ⟨0,Nat.zero_le _,rfl,Gr.refl _,λj _ h=>absurd h (Nat.not_lt_zero _)⟩
 case round=>
  obtain ⟨k,hk,rfl,hgr,ha⟩:=hrel;have Ha:=Lib.hid ha;have Hgr:=Lib.hid hgr;clear ha;by_cases hlt:k<n
  ·have hlt':(k:Int)<(n:Int):=by omega
   have hkl:k<l.length:=by rw[<-Hn.out];exact hlt
   obtain ⟨a0,a1,a2,a3⟩:=sccells_at l k hkl;replace a0:=bc hgr HR.out.1 (HR.out.2.1 _ _ a0);replace a1:=bc hgr HR.out.1 (HR.out.2.1 _ _ a1);replace a2:=bc hgr HR.out.1 (HR.out.2.1 _ _ a2);replace a3:=bc hgr HR.out.1 (HR.out.2.1 _ _ a3);have hgz:g<wr.heap.size:=Nat.lt_of_lt_of_le HR.out.1 hgr.size;obtain ⟨s,hsk⟩:∃s,s=l[k]:=⟨_,rfl⟩
   have hmem:s∈l:=by rw[hsk];exact List.getElem_mem hkl
   rw[<-hsk] at a0 a1 a2 a3;have hz:=code_sizes (l:=s.pat.data.toList) (by have:=HP.out s hmem;simpa using this);have HC:=Lib.hid (hclo_any s.pat s.ar.length s.c (grpX s.pat.data.toList) s.code.length s.pc B s.A s.P s.code nm wr rfl hz.1 hz.2.1 hz.2.2 hs ((bc hgr hB HN.out)) (Nat.lt_of_lt_of_le hB hgr.size) (Rd.gr (HR.out.2.2 s hmem) hgr));have a2:wr.cell? ⟨g,k*4+2,none⟩=some (.int .i64 (grpX s.pat.data.toList:Nat)):=a2;have Hs:=Lib.hid (show ∃h:k<l.length,s=l[k]'h from ⟨hkl,hsk⟩);clear hz hsk hgr hkl;cases hb:isC s.code nm.data.toList
   ·rw[hb] at HC;have HX:Hid (∀j (h:j<l.length),j<k+1->isC l[j].code nm.data.toList=false):=Lib.hid λj h hj=>by
     rcases Nat.lt_or_ge j k with h1|h1
     ·exact Ha.out j h h1
     ·obtain rfl:j=k:=by omega
      obtain ⟨_,e⟩:=Hs.out;rw[<-e];exact hb
    clear hb;go_wp2_with (go_at_call 21;refine HC.out.mono ?_;rintro e w2 ⟨rfl,g2⟩;have G2:=Lib.hid g2;clear g2);go_roundw;case rel=>exact ⟨k+1,by omega,by go_num,Hgr.out.trans G2.out,HX.out⟩
    case measure=>simp[intOf];omega
   ·rw[hb] at HC;have HX:Hid (FirstP (λs=>isC (Sc.code s) nm.data.toList) l (k:Int)):=Lib.hid (by
     obtain ⟨hk,e⟩:=Hs.out;exact .inr ⟨k,hk,rfl,by rw[<-e];exact hb,λi hi h=>Ha.out i hi h⟩)
    clear hb;go_wp2_with (go_at_call 21;refine HC.out.mono ?_;rintro e w2 ⟨rfl,g2⟩;have G2:=Lib.hid g2;clear g2);go_ret;exact ⟨_,rfl,HX.out,Hgr.out.trans G2.out⟩
  ·have hge:¬(k:Int)<(n:Int):=by omega
   have HX:Hid (FirstP (λs=>isC (Sc.code s) nm.data.toList) l (-1)):=Lib.hid (.inl ⟨rfl,λs hs=>by
    obtain ⟨j,hj,rfl⟩:=List.mem_iff_getElem.1 hs;exact Ha.out j hj (by have:=Hn.out;omega)⟩)
   clear hgr;go_wp2;go_ret;exact ⟨_,rfl,HX.out,Hgr.out⟩
theorem ridx_any (g c B:Nat) (l:List Ru) (hl:(l.length:Int)<=1000) (nm:ByteArray) (hs:(nm.size:Int)<=4096) (hp:∀s∈l,s.pat.size<=500) (w:World) (n0:w.cell? ⟨B,0,none⟩=some (.string nm)) (hB:B<w.heap.size) (hg:g<w.heap.size) (hr:∀j u,(rucells l)[j]?=some u->w.cell? ⟨g,j,none⟩=some u) (hri:∀s∈l,Ri w s.P s.code) :
  Calls Tryz.prog 24 #[.slice (some ⟨g,0,none⟩) l.length c, .func (.func 25) #[] #[.pointer (some ⟨B,0,none⟩)]] w λe w'=>∃k,e= .returned (.int .i64 k)/\FirstP (λs=>isC (Ru.code s) nm.data.toList) l k/\Gr w w':=by
 have HR:=Lib.hid (And.intro hg (And.intro hr hri));have HP:=Lib.hid hp;have HN:=Lib.hid n0;obtain ⟨n,hn⟩:∃n,n=l.length:=⟨_,rfl⟩
 rw[<-hn] at hl ⊢;have Hn:=Lib.hid hn;clear hr hp n0 hn hri;go_enter Tryz.func24,Tryz.ntmps24;go_wp2
 go_loopw [8] (λi wr=>∃k:Nat,k<=n/\i= .int .i64 k/\Gr w wr/\∀j (h:j<l.length),j<k->isC l[j].code nm.data.toList=false) (λi _=>n-(intOf i).toNat)
 case atStart=>exact ⟨0,Nat.zero_le _,rfl,Gr.refl _,λj _ h=>absurd h (Nat.not_lt_zero _)⟩
 case round=>
  obtain ⟨k,hk,rfl,hgr,ha⟩:=hrel;have Ha:=Lib.hid ha;have Hgr:=Lib.hid hgr;clear ha;by_cases hlt:k<n
  ·have hlt':(k:Int)<(n:Int):=by omega
   have hkl:k<l.length:=by rw[<-Hn.out];exact hlt
   obtain ⟨a0,a1,a2,a3,a4⟩:=rucells_at l k hkl;replace a0:=bc hgr HR.out.1 (HR.out.2.1 _ _ a0);replace a1:=bc hgr HR.out.1 (HR.out.2.1 _ _ a1);replace a2:=bc hgr HR.out.1 (HR.out.2.1 _ _ a2);replace a3:=bc hgr HR.out.1 (HR.out.2.1 _ _ a3);replace a4:=bc hgr HR.out.1 (HR.out.2.1 _ _ a4);have hgz:g<wr.heap.size:=Nat.lt_of_lt_of_le HR.out.1 hgr.size;obtain ⟨s,hsk⟩:∃s,s=l[k]:=⟨_,rfl⟩
   have hmem:s∈l:=by rw[hsk];exact List.getElem_mem hkl
   rw[<-hsk] at a0 a1 a2 a3 a4;have hz:=code_sizes (l:=s.pat.data.toList) (by have:=HP.out s hmem;simpa using this);have HC:=Lib.hid (rclo_any s.pat s.kind s.xff (grpX s.pat.data.toList) s.code.length s.pc B s.P s.code nm wr rfl hz.1 hz.2.1 hz.2.2 hs ((bc hgr hB HN.out)) (Nat.lt_of_lt_of_le hB hgr.size) (Rd.gr (HR.out.2.2 s hmem) hgr));have a3:wr.cell? ⟨g,k*5+3,none⟩=some (.int .i64 (grpX s.pat.data.toList:Nat)):=a3;have Hs:=Lib.hid (show ∃h:k<l.length,s=l[k]'h from ⟨hkl,hsk⟩);clear hz hsk hgr hkl;cases hb:isC s.code nm.data.toList
   ·rw[hb] at HC;have HX:Hid (∀j (h:j<l.length),j<k+1->isC l[j].code nm.data.toList=false):=Lib.hid λj h hj=>by
     rcases Nat.lt_or_ge j k with h1|h1
     ·exact Ha.out j h h1
     ·obtain rfl:j=k:=by omega
      obtain ⟨_,e⟩:=Hs.out;rw[<-e];exact hb
    clear hb;go_wp2_with (go_at_call 25;refine HC.out.mono ?_;rintro e w2 ⟨rfl,g2⟩;have G2:=Lib.hid g2;clear g2);go_roundw;case rel=>exact ⟨k+1,by omega,by go_num,Hgr.out.trans G2.out,HX.out⟩
    case measure=>simp[intOf];omega
   ·rw[hb] at HC;have HX:Hid (FirstP (λs=>isC (Ru.code s) nm.data.toList) l (k:Int)):=Lib.hid (by
     obtain ⟨hk,e⟩:=Hs.out;exact .inr ⟨k,hk,rfl,by rw[<-e];exact hb,λi hi h=>Ha.out i hi h⟩)
    clear hb;go_wp2_with (go_at_call 25;refine HC.out.mono ?_;rintro e w2 ⟨rfl,g2⟩;have G2:=Lib.hid g2;clear g2);go_ret;exact ⟨_,rfl,HX.out,Hgr.out.trans G2.out⟩
  ·have hge:¬(k:Int)<(n:Int):=by omega
   have HX:Hid (FirstP (λs=>isC (Ru.code s) nm.data.toList) l (-1)):=Lib.hid (.inl ⟨rfl,λs hs=>by
    obtain ⟨j,hj,rfl⟩:=List.mem_iff_getElem.1 hs;exact Ha.out j hj (by have:=Hn.out;omega)⟩)
   clear hgr;go_wp2;go_ret;exact ⟨_,rfl,HX.out,Hgr.out⟩
theorem hidx_nil (B:Nat) (w:World):Calls Tryz.prog 20 #[.slice none 0 0, .func (.func 21) #[] #[.pointer (some ⟨B,0,none⟩)]] w λe w'=>e= .returned (.int .i64 (-1))/\w=w':=by
 go_enter Tryz.func20,Tryz.ntmps20;go_wp2
 go_loop [8] (λi=>i= .int .i64 0) (λi=>0)
 case atStart=>exact rfl
 case round=>
  subst hrel;go_wp2;go_ret;exact ⟨rfl,rfl⟩
theorem ridx_nil (B:Nat) (w:World):Calls Tryz.prog 24 #[.slice none 0 0, .func (.func 25) #[] #[.pointer (some ⟨B,0,none⟩)]] w λe w'=>e= .returned (.int .i64 (-1))/\w=w':=by
 go_enter Tryz.func24,Tryz.ntmps24;go_wp2
 go_loop [8] (λi=>i= .int .i64 0) (λi=>0)
 case atStart=>exact rfl
 case round=>
  subst hrel;go_wp2;go_ret;exact ⟨rfl,rfl⟩
theorem sidx_all {w:World} {R B0:Nat} {W0:World} {l:List Sc} {m:List Ru} {v1 v2:Value} (h:RpM w R B0 W0 l m v1 v2) (hl:(l.length:Int)<=1000) (nm:ByteArray) (hs:(nm.size:Int)<=4096) (hp:∀s∈l,s.pat.size<=500) (W:World) (g:Gr W0 W) (B:Nat) (n0:W.cell? ⟨B,0,none⟩=some (.string nm)) (hB:B<W.heap.size) :
  Calls Tryz.prog 20 #[v1, .func (.func 21) #[] #[.pointer (some ⟨B,0,none⟩)]] W λe w'=>∃k,e= .returned (.int .i64 k)/\FirstP (λs=>isC (Sc.code s) nm.data.toList) l k/\Gr W w':=by
 have hri:∀s∈l,Ri W s.P s.code:=λs hs=>Rd.gr ((λs hs=>((Two.at' h).1 s hs).2) s hs) g;have ho:=own_grU h.o1 g;obtain ⟨h1,⟨hv,h0⟩|⟨g',cap,cur,hv,hb,hh,_⟩⟩:=id ho
 ·have:l=[]:=List.eq_nil_of_length_eq_zero h0;rw[hv];refine (hidx_nil B W).mono ?_;rintro e w' ⟨rfl,rfl⟩;exact ⟨-1,rfl, .inl ⟨rfl,λs hs=>by rw[this] at hs;cases hs⟩,Gr.refl _⟩
 ·rw[hv] at ho ⊢;have hlt:g'<W.heap.size:=by
   rcases Nat.lt_or_ge g' W.heap.size with hlt|hge
   ·exact hlt
   ·rw[Array.getElem?_eq_none hge] at hh;cases hh
  refine hidx_any g' cap B l hl nm hs hp W n0 hB hlt (λj u hu=>?_) hri;have:=ho.cells (g:=g') rfl j u hu;have e:(⟨g',0,none⟩:Addr).add j=⟨g',j,none⟩:=by
   unfold Addr.add;split
   ·rename_i h;subst h;rfl
   ·rw[Nat.zero_add]
  first|exact this|(rw[e] at this;exact this)
theorem ridx_all {w:World} {R B0:Nat} {W0:World} {l:List Sc} {m:List Ru} {v1 v2:Value} (h:RpM w R B0 W0 l m v1 v2) (hl:(m.length:Int)<=1000) (nm:ByteArray) (hs:(nm.size:Int)<=4096) (hp:∀s∈m,s.pat.size<=500) (W:World) (g:Gr W0 W) (B:Nat) (n0:W.cell? ⟨B,0,none⟩=some (.string nm)) (hB:B<W.heap.size) :
  Calls Tryz.prog 24 #[v2, .func (.func 25) #[] #[.pointer (some ⟨B,0,none⟩)]] W λe w'=>∃k,e= .returned (.int .i64 k)/\FirstP (λs=>isC (Ru.code s) nm.data.toList) m k/\Gr W w':=by
 have hri:∀s∈m,Ri W s.P s.code:=λs hs=>Rd.gr ((λs hs=>(Two.at' h).2 s hs) s hs) g;have ho:=own_grU h.o2 g;obtain ⟨h1,⟨hv,h0⟩|⟨g',cap,cur,hv,hb,hh,_⟩⟩:=id ho
 ·have:m=[]:=List.eq_nil_of_length_eq_zero h0;rw[hv];refine (ridx_nil B W).mono ?_;rintro e w' ⟨rfl,rfl⟩;exact ⟨-1,rfl, .inl ⟨rfl,λs hs=>by rw[this] at hs;cases hs⟩,Gr.refl _⟩
 ·rw[hv] at ho ⊢;have hlt:g'<W.heap.size:=by
   rcases Nat.lt_or_ge g' W.heap.size with hlt|hge
   ·exact hlt
   ·rw[Array.getElem?_eq_none hge] at hh;cases hh
  refine ridx_any g' cap B m hl nm hs hp W n0 hB hlt (λj u hu=>?_) hri;have:=ho.cells (g:=g') rfl j u hu;have e:(⟨g',0,none⟩:Addr).add j=⟨g',j,none⟩:=by
   unfold Addr.add;split
   ·rename_i h;subst h;rfl
   ·rw[Nat.zero_add]
  first|exact this|(rw[e] at this;exact this)
structure HdS (W:World) (R:Nat) (nm:ByteArray) (v2 a:Value) (V:World):Prop where
 gr:Gr W V
 sz:W.heap.size+3<=V.heap.size
 n0:V.cell? ⟨W.heap.size,0,none⟩=some (.string nm)
 r1:V.cell? ⟨R,1,none⟩=some v2
 x0:V.cell? ⟨W.heap.size+1,0,none⟩=some (.int .i64 0)
 x1:V.cell? ⟨W.heap.size+1,1,none⟩=some (.int .i64 0)
 x2:V.cell? ⟨W.heap.size+1,2,none⟩=some (.slice none 0 0)
 y0:V.frozen? ⟨W.heap.size+1,0,none⟩=false
 y1:V.frozen? ⟨W.heap.size+1,1,none⟩=false
 y2:V.frozen? ⟨W.heap.size+1,2,none⟩=false
 z0:V.cell? ⟨W.heap.size+1+1,0,none⟩=some (.int .i64 1)
 z1:V.cell? ⟨W.heap.size+1+1,1,none⟩=some (.int .i64 500000)
 z2:V.cell? ⟨W.heap.size+1+1,2,none⟩=some a
 z3:V.frozen? ⟨W.heap.size+1+1,0,none⟩=false
 z4:V.frozen? ⟨W.heap.size+1+1,1,none⟩=false
 z5:V.frozen? ⟨W.heap.size+1+1,2,none⟩=false
theorem HdS.up {W:World} {R:Nat} {nm:ByteArray} {v2 a:Value} {V V':World} (h:HdS W R nm v2 a V) (hR:R<W.heap.size) (g:Gr V V'):HdS W R nm v2 a V':=by
 have hz:=h.sz;have c:∀b j,b<W.heap.size+3->V'.cell? ⟨b,j,none⟩=V.cell? ⟨b,j,none⟩:=λb j hb=>Below.cell g (p:=⟨b,j,none⟩) (by show b<_;omega);have f:∀b j,b<W.heap.size+3->V'.frozen? ⟨b,j,none⟩=V.frozen? ⟨b,j,none⟩:=λb j hb=>Below.frozen g (p:=⟨b,j,none⟩) (by show b<_;omega);exact ⟨h.gr.trans g,Nat.le_trans hz g.size,(c _ _ (by omega)).trans h.n0,(c _ _ (by omega)).trans h.r1,(c _ _ (by omega)).trans h.x0,(c _ _ (by omega)).trans h.x1,(c _ _ (by omega)).trans h.x2,(f _ _ (by omega)).trans h.y0,(f _ _ (by omega)).trans h.y1,(f _ _ (by omega)).trans h.y2,(c _ _ (by omega)).trans h.z0,(c _ _ (by omega)).trans h.z1,(c _ _ (by omega)).trans h.z2,(f _ _ (by omega)).trans h.z3,(f _ _ (by omega)).trans h.z4,(f _ _ (by omega)).trans h.z5⟩
structure OffH (d:Nat) (W w2 V:World):Prop where
 gr:Gr W V
 sz:w2.heap.size<=V.heap.size
 bl:∀b,W.heap.size+d<=b->b<w2.heap.size->V.heap[b]?=w2.heap[b]?
theorem OffH.up {d:Nat} {W w2 V V':World} (h:OffH d W w2 V) (g:Gr V V'):OffH d W w2 V':=
 ⟨h.gr.trans g,Nat.le_trans h.sz g.size,λb h1 h2=>(Below.block g b (Nat.lt_of_lt_of_le h2 h.sz)).trans (h.bl b h1 h2)⟩
theorem OffH.set {d:Nat} {W w2 V:World} (h:OffH d W w2 V) (p:Addr) (h1:W.heap.size<=p.block) (h2:p.block<W.heap.size+d) (v:Value):OffH d W w2 (V.setCell p v):=
 ⟨h.gr.setCell h1 _,by simp;exact h.sz,λb hb hb2=>(Below.heap_setCell V p v b (by omega)).trans (h.bl b hb hb2)⟩
def SmH (W:World) (R g o1 o2:Nat) (v2:Value) (kd xf:Int) (V:World):Prop:=
 V.cell? ⟨R,1,none⟩=some v2/\V.cell? ⟨g,o1,none⟩=some (.int .i64 kd)/\V.cell? ⟨g,o2,none⟩=some (.int .i64 xf)/\R<W.heap.size/\g<W.heap.size
theorem SmH.set {W:World} {R g o1 o2:Nat} {v2:Value} {kd xf:Int} {V:World} (h:SmH W R g o1 o2 v2 kd xf V) (p:Addr) (h1:W.heap.size<=p.block) (v:Value):SmH W R g o1 o2 v2 kd xf (V.setCell p v):=by
 obtain ⟨a,b,c,d,e⟩:=h;have k:∀q:Addr,q.block<W.heap.size->(V.setCell p v).cell? q=V.cell? q:=λq hq=>World.cell?_setCell_other _ _ _ _ (λe=>by rw[<-e] at hq;omega);exact ⟨(k _ d).trans a,(k _ e).trans b,(k _ e).trans c,d,e⟩
def RetHh (x:Option (Int×Int×List (Nat×Nat))) (w:World) (e:Ending) (w':World):Prop:=match x with
 | none=>e= .returned (.tuple #[.agg #[.int .i64 0, .int .i64 0, .slice none 0 0], .bool false])/\Gr w w'
 | some (k,x,ar)=>∃A c,e= .returned (.tuple #[.agg #[.int .i64 k, .int .i64 x, .slice A ar.length c], .bool true])/\Ra w' A ar/\Gr w w'
theorem RetHh.no {x:Option (Int×Int×List (Nat×Nat))} {w w':World} (h:x=none) (g:Gr w w'):RetHh x w (.returned (.tuple #[.agg #[.int .i64 0, .int .i64 0, .slice none 0 0], .bool false])) w':=by subst h;exact ⟨rfl,g⟩
theorem RetHh.yes {x:Option (Int×Int×List (Nat×Nat))} {w w':World} {k f:Int} {ar:List (Nat×Nat)} {A:Option Addr} {c:Nat} (h:x=some (k,f,ar)) (hr:Ra w' A ar) (g:Gr w w'):RetHh x w (.returned (.tuple #[.agg #[.int .i64 k, .int .i64 f, .slice A ar.length c], .bool true])) w':=by subst h;exact ⟨A,c,rfl,hr,g⟩
theorem find_map {α β:Type} (f:α->β) (p:β->Bool):∀l:List α,(l.map f).find? p=(l.find? λa=>p (f a)).map f
 | []=>rfl
 | a::l=>by
  rw[List.map_cons,List.find?_cons,List.find?_cons,find_map f p l];cases p (f a)<;>rfl
theorem hdr_none {l:List Sc} {m:List Ru} {st:St} (h:Mt l m st) {nm:List UInt8} (h1:l.find? (λs=>isC (Sc.code s) nm)=none):hdrR st nm=none:=by
 have e:st.S.find? (λs=>inP s.pat nm)=none:=by rw[<-h.1,find_map,show l.find? (λa=>inP a.pat.data.toList nm)=none from h1];rfl
 unfold hdrR;rw[e]
theorem hdr_some {l:List Sc} {m:List Ru} {st:St} (h:Mt l m st) {nm:List UInt8} {s:Sc} (h1:l.find? (λs=>isC (Sc.code s) nm)=some s):(m.find? (λs=>isC (Ru.code s) nm)=none->hdrR st nm=some (1,500000,s.ar))/\∀r,m.find? (λs=>isC (Ru.code s) nm)=some r->hdrR st nm=some (r.kind,r.xff,s.ar):=by
 have e:st.S.find? (λs=>inP s.pat nm)=some ⟨s.pat.data.toList,s.ar⟩:=by rw[<-h.1,find_map,show l.find? (λa=>inP a.pat.data.toList nm)=some s from h1];rfl
 have e2:∀o,m.find? (λs=>isC (Ru.code s) nm)=o->st.R.find? (λs=>inP s.pat nm)=o.map λs=>RR.mk s.pat.data.toList s.kind s.xff:=λo ho=>by
  rw[<-h.2,find_map,show m.find? (λa=>inP a.pat.data.toList nm)=o from ho]
 unfold hdrR;rw[e];exact ⟨λh2=>by rw[e2 _ h2];rfl,λr h2=>by rw[e2 _ h2];rfl⟩
theorem header_any {w:World} {R B0:Nat} {W:World} {l:List Sc} {m:List Ru} {v1 v2:Value} (h:RpM w R B0 W l m v1 v2) {st:St} (hst:Mt l m st) (hl:(l.length:Int)<=1000) (hml:(m.length:Int)<=1000) (nm:ByteArray) (hs:(nm.size:Int)<=4096) (hp:∀s∈l,s.pat.size<=500) (hq:∀s∈m,s.pat.size<=500) (ha:∀s∈l,0<s.ar.length/\s.ar.length<=1000) (W1:World) (gW:Gr W W1) :
  Calls Tryz.prog 7 #[.pointer (some ⟨R,0,none⟩), .string nm] W1 (RetHh (hdrR st nm.data.toList) W1):=by
 have h:RpM w R B0 W1 l m v1 v2:=Two.gr' h gW;clear gW
 revert h
 generalize W1=W;intro h;obtain ⟨A,c,hv⟩:=own_form h.o1;obtain ⟨A2,c2,hv2⟩:=own_form h.o2;subst hv hv2;have hRW:R<W.heap.size:=Nat.lt_of_lt_of_le h.lt h.sz;have HI1:=Lib.hid (λW' (g:Gr W W') B n0 hB=>sidx_all h hl nm hs hp W' g B n0 hB);have HI2:=Lib.hid (λW' (g:Gr W W') B n0 hB=>ridx_all h hml nm hs hq W' g B n0 hB);have Hh:=Lib.hid h;have HA:=Lib.hid ha;have HST:=Lib.hid hst;obtain ⟨V,hV⟩:∃V,V=((W.alloc (.cells #[.string nm] 9)).alloc (.cells #[.int .i64 0, .int .i64 0, .slice none 0 0] 29)).alloc (.cells #[.int .i64 1, .int .i64 500000, .slice none 0 0] 29):=⟨_,rfl⟩
 have gV:Gr W V:=by rw[hV];exact Gr.alloc (Gr.alloc (Gr.alloc (Gr.refl W) _) _) _
 have hS:HdS W R nm (.slice A2 m.length c2) (.slice none 0 0) V:=by
  refine ⟨gV,by rw[hV];simp,by rw[hV];go_simp,(bc gV hRW h.x2),by rw[hV];go_simp,by rw[hV];go_simp,by rw[hV];go_simp,by rw[hV];go_simp,by rw[hV];go_simp,by rw[hV];go_simp,by rw[hV];go_simp,by rw[hV];go_simp,by rw[hV];go_simp,by rw[hV];go_simp,by rw[hV];go_simp,by rw[hV];go_simp⟩
 have r0:=bc gV hRW h.x1;have HS:=Lib.hid hS;have HV:=Lib.hid hV;have HC:=Lib.hid (HI1.out V gV W.heap.size hS.n0 (by have:=hS.sz;omega));have hVz:W.heap.size+3<=V.heap.size:=hS.sz;obtain ⟨-,hz,n0,r1,x0,x1,x2,y0,y1,y2,z0,z1,z2,z3,z4,z5⟩:=id hS;clear hs hp hq ha hV gV h HI1 hst hS;go_enter Tryz.func7,Tryz.ntmps7;go_upto_region 4 with (fail)
 rw[<-HV.out];clear HV;go_upto_region 5 with (go_at_call 20;refine HC.out.mono ?_;rintro e w1 ⟨k,rfl,hF,g1⟩)
 have HF:=hF.find;have hS1:=HS.out.up hRW g1;replace r0:=bc g1 (by show R<V.heap.size;omega) r0;have HS1:=Lib.hid hS1;clear n0 r1 x0 x1 x2 y0 y1 y2 z0 z1 z2 z3 z4 z5 hz hVz HS HC hF g1;obtain ⟨-,hz,n0,r1,x0,x1,x2,y0,y1,y2,z0,z1,z2,z3,z4,z5⟩:=id hS1;rcases HF with ⟨rfl,hno⟩|⟨j,hj,rfl,hyes⟩
 ·have HN:=Lib.hid (hdr_none HST.out hno);clear hno r0 r1 z0 z1 z2 z3 z4 z5 n0 hS1;go_wp2;refine bodyPost_ret (v:= .tuple #[.agg #[.int .i64 0, .int .i64 0, .slice none 0 0], .bool false]) (by simp[results,Tryz.results7,go_sem, *]) rfl ?_;have gW:=HS1.out.gr;exact RetHh.no HN.out (by repeat (first|exact gW|refine Gr.setCell ?_ (by show W.heap.size<=W.heap.size+1;omega) _))
 ·have HY:=Lib.hid (hdr_some HST.out hyes);obtain ⟨g,hgA, -,hgz,hcs⟩:=own_blockU Hh.out.o1 (Nat.lt_of_le_of_lt (Nat.zero_le j) hj);subst hgA;have gW1:=hS1.gr;have a1:=bc gW1 hgz (hcs _ _ (sccells_at l j hj).2.1);have hji:(j:Int)<(l.length:Int):=by omega
  obtain ⟨s,hsj⟩:∃s,s=l[j]:=⟨_,rfl⟩
  have hmem:s∈l:=by rw[hsj];exact List.getElem_mem hj
  rw[<-hsj] at a1 HY;have hgz1:g<w1.heap.size:=Nat.lt_of_lt_of_le hgz gW1.size;have HCL:=Lib.hid (aclone_any s.A s.c s.ar (HA.out s hmem).1 (HA.out s hmem).2 w1 (Ra.gr ((Two.at' Hh.out).1 s hmem).1 gW1));have hS1z:=hS1.sz;clear hyes hcs hsj hmem gW1 hgz HST hj hS1;go_upto_region 8 with (go_at_call 23;refine HCL.out.mono ?_;rintro e w2 ⟨A',c',rfl,hra,g2,hf2⟩;have hS2:=HS1.out.up hRW g2;have H2:=Lib.hid (And.intro hra (And.intro g2 hf2));have HS2:=Lib.hid hS2;clear n0 r1 x0 x1 x2 y0 y1 y2 z0 z1 z2 z3 z4 z5 hz g2 hra hf2 r0 a1 HS1 HCL;obtain ⟨-,hz,n0,r1,x0,x1,x2,y0,y1,y2,z0,z1,z2,z3,z4,z5⟩:=id hS2;clear hS2)
  obtain ⟨w3,hw3⟩:∃w3,w3=w2.setCell ⟨W.heap.size+1+1,2,none⟩ (.slice A' s.ar.length c'):=⟨_,rfl⟩
  have hS3:HdS W R nm (.slice A2 m.length c2) (.slice A' s.ar.length c') w3:=by
   have c0:∀b i,¬(b=W.heap.size+1+1/\i=2)->w3.cell? ⟨b,i,none⟩=w2.cell? ⟨b,i,none⟩:=λb i hb=>by
    rw[hw3];exact World.cell?_setCell_other _ _ _ _ (by simp;omega)
   have f0:∀b i,w3.frozen? ⟨b,i,none⟩=w2.frozen? ⟨b,i,none⟩:=λb i=>by rw[hw3,World.frozen?_setCell]
   exact ⟨by rw[hw3];exact HS2.out.gr.setCell (by show W.heap.size<=W.heap.size+1+1;omega) _,by rw[hw3];simp;exact HS2.out.sz,(c0 _ _ (by omega)).trans HS2.out.n0,(c0 _ _ (by omega)).trans HS2.out.r1,(c0 _ _ (by omega)).trans HS2.out.x0,(c0 _ _ (by omega)).trans HS2.out.x1,(c0 _ _ (by omega)).trans HS2.out.x2,(f0 _ _).trans HS2.out.y0,(f0 _ _).trans HS2.out.y1,(f0 _ _).trans HS2.out.y2,(c0 _ _ (by omega)).trans HS2.out.z0,(c0 _ _ (by omega)).trans HS2.out.z1,by rw[hw3];exact World.cell?_setCell_same' _ _ _ (by rw[HS2.out.z2];rfl),(f0 _ _).trans HS2.out.z3,(f0 _ _).trans HS2.out.z4,(f0 _ _).trans HS2.out.z5⟩
  have hO3:OffH 3 W w2 w3:=by
   rw[hw3];exact OffH.set ⟨HS2.out.gr,Nat.le_refl _,λ_ _ _=>rfl⟩ _ (by show W.heap.size<=W.heap.size+1+1;omega) (by show W.heap.size+1+1<_;omega) _
  have hra3:Hid (∀V',OffH 3 W w2 V'->Ra V' A' s.ar):=Lib.hid λV' ho=>H2.out.1.same λb hm=>ho.bl b (Nat.le_trans hS1z (blk_ge H2.out.2.2 b hm)) (H2.out.1.lt b hm);have HO3:=Lib.hid hO3;have HS3:=Lib.hid hS3;have HC2:=Lib.hid (HI2.out w3 hS3.gr W.heap.size hS3.n0 (by have:=hS3.sz;omega));rw[<-hw3];clear n0 r1 x0 x1 x2 y0 y1 y2 z0 z1 z2 z3 z4 z5 hz hO3 H2 HS2 hw3 HI2;obtain ⟨-,hz,n0,r1,x0,x1,x2,y0,y1,y2,z0,z1,z2,z3,z4,z5⟩:=id hS3;clear hS3;go_upto_region 9 with (go_at_call 24;refine HC2.out.mono ?_;rintro e w4 ⟨k2,rfl,hF2,g4⟩;have HF2:=hF2.find;have hS4:=HS3.out.up hRW g4;have HO4:=Lib.hid (HO3.out.up g4);have HS4:=Lib.hid hS4;clear n0 r1 x0 x1 x2 y0 y1 y2 z0 z1 z2 z3 z4 z5 hz g4 hF2 HS3 HO3 HC2;obtain ⟨-,hz,n0,r1,x0,x1,x2,y0,y1,y2,z0,z1,z2,z3,z4,z5⟩:=id hS4;clear hS4)
  rcases HF2 with ⟨rfl,hno⟩|⟨j2,hj2,rfl,hyes⟩
  ·have HN:=Lib.hid (HY.out.1 hno);clear hno;go_wp2;refine bodyPost_ret (v:= .tuple #[.agg #[.int .i64 1, .int .i64 500000, .slice A' s.ar.length c'], .bool true]) (by simp[results,Tryz.results7,go_sem, *]) rfl ?_;have ho:=HO4.out;have hoo:=Lib.hid (show OffH 3 W w2 (((w4.setCell ⟨W.heap.size+1,0,none⟩ (.int .i64 1)).setCell ⟨W.heap.size+1,1,none⟩ (.int .i64 500000)).setCell ⟨W.heap.size+1,2,none⟩ (.slice A' s.ar.length c')) from ((ho.set _ (by show W.heap.size<=W.heap.size+1;omega) (by show W.heap.size+1<_;omega) _).set _ (by show W.heap.size<=W.heap.size+1;omega) (by show W.heap.size+1<_;omega) _).set _ (by show W.heap.size<=W.heap.size+1;omega) (by show W.heap.size+1<_;omega) _);exact RetHh.yes HN.out (hra3.out _ hoo.out) hoo.out.gr
  ·have HN:=Lib.hid (HY.out.2 _ hyes);obtain ⟨g2,hgA2, -,hgz2,hcs2⟩:=own_blockU Hh.out.o2 (Nat.lt_of_le_of_lt (Nat.zero_le j2) hj2);subst hgA2;have b1:=bc HO4.out.gr hgz2 (hcs2 _ _ (rucells_at m j2 hj2).2.1);have b2:=bc HO4.out.gr hgz2 (hcs2 _ _ (rucells_at m j2 hj2).2.2.1);have hji2:(j2:Int)<(m.length:Int):=by omega
   generalize m[j2].kind=kd at HN b1;generalize m[j2].xff=xf at HN b2;clear hyes hcs2 hj2 hml;go_upto_region 10 with (fail)
   refine wp_region_Z 23 (SmH W R g2 (j2*5+1) (j2*5+2) (.slice (some ⟨g2,0,none⟩) m.length c2) kd xf) (by kernel_rfl) ?_;obtain ⟨V9,hV9⟩:∃V9,V9=w4.drew:=⟨_,rfl⟩
   have hS9:=HS4.out.up hRW (show Gr w4 V9 by rw[hV9];exact Gr.drew (Gr.refl _));have HO9:=Lib.hid (HO4.out.up (show Gr w4 V9 by rw[hV9];exact Gr.drew (Gr.refl _)));have hS0:SmH W R g2 (j2*5+1) (j2*5+2) (.slice (some ⟨g2,0,none⟩) m.length c2) kd xf V9:=by rw[hV9];exact ⟨r1,b1,b2,hRW,hgz2⟩
   rw[<-hV9];have HS9:=Lib.hid hS9;clear n0 r1 x0 x1 x2 y0 y1 y2 z0 z1 z2 z3 z4 z5 hz HS4 HO4 hS9 hV9 b1 b2;refine zu 0 hS0 ?_;refine zu 1 hS0 ?_;refine zu 2 hS0 ?_;refine zu 3 hS0 ?_;refine zu 4 hS0 ?_ (hy:=λW hS=>by obtain ⟨k0,k1,k2,k3,k4⟩:=hS;go_simp<;>rfl);refine zu 5 hS0 ?_;refine zu 6 hS0 ?_ (hy:=λW hS=>by obtain ⟨k0,k1,k2,k3,k4⟩:=hS;go_simp<;>rfl);refine zu 7 hS0 ?_;refine zu 8 hS0 ?_;refine zu 9 hS0 ?_ (hy:=λW hS=>by obtain ⟨k0,k1,k2,k3,k4⟩:=hS;go_simp<;>rfl);refine zu 10 hS0 ?_;refine zu 11 hS0 ?_;refine zu 12 hS0 ?_;refine zu 13 hS0 ?_;refine zu 14 hS0 ?_ (hy:=λW hS=>by obtain ⟨k0,k1,k2,k3,k4⟩:=hS;go_simp<;>rfl);refine zu 15 hS0 ?_;refine zu 16 hS0 ?_ (hy:=λW hS=>by obtain ⟨k0,k1,k2,k3,k4⟩:=hS;go_simp<;>rfl);refine zu 17 hS0 ?_;refine zu 18 hS0 ?_;refine zu 19 hS0 ?_ (hy:=λW hS=>by obtain ⟨k0,k1,k2,k3,k4⟩:=hS;go_simp<;>rfl);have z0:=HS9.out.z0;have z1:=HS9.out.z1;have z3:=HS9.out.z3;have z4:=HS9.out.z4;refine zs 20 rfl (λK hK=>?_);go_wp2_with fail;refine hK.out _ _ (λhnz=>?s21) (λ_=>?r21);case s21=>exact hS0
   clear hK K;try simp only[Pu,Gl]
   refine zs 21 rfl (λK hK=>?_);go_wp2_with fail;refine hK.out _ _ (λhnz=>?s22) (λ_=>?r22);case s22=>exact hS0.set _ (by show W.heap.size<=W.heap.size+1+1;omega) _
   clear hK K;try simp only[Pu,Gl]
   refine zs 22 rfl (λK hK=>?_);go_wp2_with fail;refine hK.out _ _ (λhnz=>?s23) (λ_=>?r23);case s23=>exact hS0.set _ (by show W.heap.size<=W.heap.size+1+1;omega) _
   clear hK K;try simp only[Pu,Gl]
   refine zs 23 rfl (λK hK=>?_);go_wp2_with fail;refine hK.out _ _ (λhnz=>?s24) (λ_=>?r24);case s24=>exact absurd rfl hnz
   clear hK K;try simp only[Pu,Gl]
   refine wpAnyZ_done (by kernel_rfl) ?_ _;obtain ⟨-, -, -, -,x0,x1,x2,y0,y1,y2, -, -,z2, -⟩:=HS9.out;go_wp2;refine bodyPost_ret (v:= .tuple #[.agg #[.int .i64 kd, .int .i64 xf, .slice A' s.ar.length c'], .bool true]) (by simp[results,Tryz.results7,go_sem, *]) rfl ?_;have ho:=((HO9.out.set ⟨W.heap.size+1+1,0,none⟩ (by show W.heap.size<=W.heap.size+1+1;omega) (by show W.heap.size+1+1<_;omega) (.int .i64 kd)).set ⟨W.heap.size+1+1,1,none⟩ (by show W.heap.size<=W.heap.size+1+1;omega) (by show W.heap.size+1+1<_;omega) (.int .i64 xf))
   have hoo:=Lib.hid (((ho.set ⟨W.heap.size+1,0,none⟩ (by show W.heap.size<=W.heap.size+1;omega) (by show W.heap.size+1<_;omega) (.int .i64 kd)).set ⟨W.heap.size+1,1,none⟩ (by show W.heap.size<=W.heap.size+1;omega) (by show W.heap.size+1<_;omega) (.int .i64 xf)).set ⟨W.heap.size+1,2,none⟩ (by show W.heap.size<=W.heap.size+1;omega) (by show W.heap.size+1<_;omega) (.slice A' s.ar.length c'));exact RetHh.yes HN.out (hra3.out _ hoo.out) hoo.out.gr
def SmG (b:Nat) (s:Sc) (W:World):Prop:=W.cell? ⟨b,0,none⟩=some (.string s.pat)/\W.cell? ⟨b,1,none⟩=some (.slice s.A s.ar.length s.c)/\b<W.heap.size
theorem SmG.up {b:Nat} {s:Sc} {W W':World} (h:SmG b s W) (g:Gr W W'):SmG b s W':=
 ⟨(bc g h.2.2 h.1),(bc g h.2.2 h.2.1),Nat.lt_of_lt_of_le h.2.2 g.size⟩
theorem SmG.kept {b:Nat} {s:Sc} {W W':World} {r:Option Nat} (h:SmG b s W) (g:W.grownBy W' r) (hr:r≠some b):SmG b s W':=by
 have e:=g.block b h.2.2 (λe=>hr e.symm);exact ⟨(World.cell?_of_block (a:=⟨b,0,none⟩) e).trans h.1,(World.cell?_of_block (a:=⟨b,1,none⟩) e).trans h.2.1,Nat.lt_of_lt_of_le h.2.2 g.size⟩
def RowQ (w:World) (A:Option Addr) (n:Nat) (xs:List Value):Prop:=0<n->∃g,A=some ⟨g,0,none⟩/\g<w.heap.size/\∀j u,xs[j]?=some u->w.cell? ⟨g,j,none⟩=some u
theorem RowQ.own {w:World} {base:Nat} {e:TypeId} {size n c:Nat} {A:Option Addr} {xs:List Value} (h:w.ownsRow base e size (.slice A n c) n xs):RowQ w A n xs:=λh0=>by
 obtain ⟨g,a, -,b,d⟩:=own_blockU h h0;exact ⟨g,a,b,d⟩
def RetSs (L:List SR) (n:Nat) (w:World) (e:Ending) (w':World):Prop:=∃A c q,e= .returned (.slice A n c)/\q.map Qs.p=L/\RowQ w' A n (qscells q)/\(∀s∈q,Ra w' s.A s.ar)/\Gr w w'
theorem schemas_any {w:World} {R B0:Nat} {W:World} {l:List Sc} {m:List Ru} {v1 v2:Value} (h:RpM w R B0 W l m v1 v2) (hl:(l.length:Int)<=1000) (ha:∀s∈l,0<s.ar.length/\s.ar.length<=1000) (W1:World) (gW:Gr W W1) :
  Calls Tryz.prog 12 #[.pointer (some ⟨R,0,none⟩)] W1 (RetSs (l.map scP) l.length W1):=by
 have h:RpM w R B0 W1 l m v1 v2:=Two.gr' h gW;clear gW;obtain ⟨i0,hi0,hz0,hz1,hz2⟩:=info_parts info_qs;obtain ⟨A,c,hv⟩:=own_form h.o1;subst hv;have hRW:R<W1.heap.size:=Nat.lt_of_lt_of_le h.lt h.sz;have r0:=h.x1;have Hh:=Lib.hid h;have HA:=Lib.hid ha;have HL:Hid ((l.map scP).length=l.length):=Lib.hid (List.length_map _);clear h ha;go_enter Tryz.func12,Tryz.ntmps12;go_wp2
 go_loopw [3,14] (λv i wr=>∃(k:Nat) (q:List Qs),k<=l.length/\i= .int .i64 k/\Hid (GtS W1 (l.map scP) wr v k q)) (λ_ i _=>l.length-(intOf i).toNat)
 case atStart=>exact ⟨0,[],Nat.zero_le _,rfl,Lib.hid ⟨Gr.refl _,rfl,World.ownsRow_nil _ _ _ _,[],λb hb=>(by cases hb),λ_ _ s hs=>(by cases hs)⟩⟩
 case round=>
  obtain ⟨k,q,hk,rfl,HG⟩:=hrel;obtain ⟨A5,c5,hv5⟩:=own_form HG.out.own;subst hv5;by_cases hlt:k<l.length
  ·have hji:(k:Int)<(l.length:Int):=by omega
   obtain ⟨g,hgA, -,hgz,hcs⟩:=own_blockU Hh.out.o1 (Nat.lt_of_le_of_lt (Nat.zero_le k) hlt);subst hgA;obtain ⟨a0,a1,a2,a3⟩:=sccells_at l k hlt;have gr:=HG.out.gr;replace a0:=bc gr hgz (hcs _ _ a0);replace a1:=bc gr hgz (hcs _ _ a1);replace a2:=bc gr hgz (hcs _ _ a2);replace a3:=bc gr hgz (hcs _ _ a3);obtain ⟨s,hsk⟩:∃s,s=l[k]:=⟨_,rfl⟩
   have hmem:s∈l:=by rw[hsk];exact List.getElem_mem hlt
   rw[<-hsk] at a0 a1 a2 a3;have hgz1:g<wr.heap.size:=Nat.lt_of_lt_of_le hgz gr.size;have hra0:Ra wr s.A s.ar:=Ra.gr ((Two.at' Hh.out).1 s hmem).1 gr;have HK:Hid (∃h:k<l.length,s=l[k]'h):=Lib.hid ⟨hlt,hsk⟩;generalize s.g=sg at a2;generalize hcl:s.code.length=cl at a3;clear hcl hsk hcs gr hlt;go_upto_region 7 with (fail)
   obtain ⟨b5,hb5⟩:∃b5,b5=wr.heap.size:=⟨_,rfl⟩
   refine wp_region_Z 11 (SmG b5 s) (by kernel_rfl) ?_;obtain ⟨V5,hV5⟩:∃V5,V5=(wr.alloc (.cells #[.string s.pat, .slice s.A s.ar.length s.c, .int .i64 sg, .slice s.P cl s.pc] 73)).drew:=⟨_,rfl⟩
   have HG5:Hid (Gr wr V5):=Lib.hid (by rw[hV5];exact Gr.drew (Gr.alloc (Gr.refl wr) _));have hS0:SmG b5 s V5:=by
    have h2:SmG b5 s (wr.alloc (.cells #[.string s.pat, .slice s.A s.ar.length s.c, .int .i64 sg, .slice s.P cl s.pc] 73)):=by rw[hb5];exact ⟨by go_simp,by go_simp,by simp⟩
    rw[hV5];exact h2.up (Gr.drew (Gr.refl _))
   have hb5w:wr.heap.size<=b5:=by omega
   rw[<-hV5,<-hb5];clear hV5 hb5 a0 a1 a2 a3 hgz1;refine zu 0 hS0 ?_;refine zu 1 hS0 ?_;refine zu 2 hS0 ?_;refine zu 3 hS0 ?_ (hy:=λW hS=>by obtain ⟨k0,k1,k2⟩:=hS;go_simp<;>rfl);refine zu 4 hS0 ?_;refine zu 5 hS0 ?_;refine zu 6 hS0 ?_ (hy:=λW hS=>by obtain ⟨k0,k1,k2⟩:=hS;go_simp<;>rfl);refine zs 7 rfl (λK hK=>?_);obtain ⟨-, -,hz5⟩:=id hS0;go_simp;refine (aclone_any s.A s.c s.ar (HA.out s hmem).1 (HA.out s hmem).2 _ (Ra.gr hra0 (HG5.out))).mono ?_;rintro e w6 ⟨A',c',rfl,hra,g6,hf6⟩;have hS6:=hS0.up g6;clear hz5;go_wp2_with fail;refine hK.out _ _ (λhnz=>?s8) (λ_=>?r8);case s8=>exact hS6
   clear hK K;try simp only[Pu,Gl]
   refine zu 8 hS6 ?_;refine zs 9 rfl (λK hK=>?_);have hS7:=hS6.up (Gr.alloc (Gr.refl w6) (.cells #[.string s.pat, .slice A' s.ar.length c'] 48));have g06:=HG5.out.trans g6;have own7:=(own_grU HG.out.own g06).alloc (.cells #[.string s.pat, .slice A' s.ar.length c'] 48);have hrx:Rd (w6.alloc (.cells #[.string s.pat, .slice A' s.ar.length c'] 48)) 2 (some ⟨w6.heap.size,0,none⟩) 1 ([.string s.pat, .slice A' s.ar.length c']:List Value):=Rd.newU (W:=w6) rfl 48 [.string s.pat, .slice A' s.ar.length c'] rfl;go_simp;refine hK.out _ _ (λhnz=>?s10) (λ_=>?r10);case s10=>exact hS7
   clear hK K;try simp only[Pu,Gl]
   refine zs 10 rfl (λK hK=>?_);refine wp_append_rdX (.tmp 18) (.tmp 27) 41 rfl W1.heap.size 48 i0 _ 2 40 Tryz.underlying41 hi0 hz0 hz1 hz2 rfl (by decide) _ k _ rfl own7 ⟨w6.heap.size,0,none⟩ 1 _ ([.string s.pat, .slice A' s.ar.length c']:List Value) rfl hrx (by decide) (by simp[Value.oneCell']) (by unfold maxLen;omega) (by omega) (by have:=(HG.out.gr.trans g06).size;simp;omega) ?_;intro v' w9 own9 hgr9 hob9;obtain ⟨A9,c9,hv9⟩:=own_form own9;subst hv9;have Hg9:=Lib.hid (And.intro own9 (And.intro hgr9 hob9));have hlt5:V5.heap.size<=w6.heap.size:=g6.size;have hS9:SmG b5 s w9:=hS7.kept hgr9 (λe=>by have:=(HG.out.own.lt b5 e).2;omega);clear own9 hgr9 hob9 hS7 own7 hrx;refine hK.out _ _ (λhnz=>?s11) (λ_=>?r11);case s11=>exact hS9
   clear hK K;try simp only[Pu,Gl]
   refine zs 11 rfl (λK hK=>?_);go_wp2_with fail;refine hK.out _ _ (λhnz=>?s12) (λ_=>?r12);case s12=>exact absurd rfl hnz
   clear hK K;try simp only[Pu,Gl]
   refine wpAnyZ_done (by kernel_rfl) ?_ _;clear hS0 hS6 hS9;go_wp2;go_roundw;case rel=>obtain ⟨own9,hgr9,hob9⟩:=Hg9.out;obtain ⟨hkl,hs⟩:=HK.out;exact ⟨k+1,q++[⟨s.pat,s.ar,A',c'⟩],by omega,by go_num,Lib.hid (HG.out.push (g06.alloc _) ⟨s.pat,s.ar,A',c'⟩ own9 hgr9 hob9 (Ra.gr hra (Gr.alloc (Gr.refl _) _)) (λad e=>Nat.le_trans HG5.out.size (hf6 ad e)) (by rw[HL.out];exact hkl) (by rw[List.getElem_map,<-hs];rfl))⟩
   case measure=>simp[intOf];omega
  ·have hge:¬(k:Int)<(l.length:Int):=by omega
   obtain rfl:k=l.length:=by omega
   go_wp2;go_ret;obtain ⟨K, -,hF⟩:=HG.out.kp;exact ⟨A5,c5,q,rfl,by rw[HG.out.eq,List.take_of_length_le (by rw[HL.out];exact Nat.le_refl _)],RowQ.own HG.out.own,hF _ λ_ _=>rfl,HG.out.gr⟩
def RetRs (q:List Qr) (n:Nat) (w:World) (e:Ending) (w':World):Prop:=∃A c,e= .returned (.slice A n c)/\RowQ w' A n (qrcells q)/\Gr w w'
theorem rules_any {w:World} {R B0:Nat} {W:World} {l:List Sc} {m:List Ru} {v1 v2:Value} (h:RpM w R B0 W l m v1 v2) (hl:(m.length:Int)<=1000) (W1:World) (gW:Gr W W1) :
  Calls Tryz.prog 13 #[.pointer (some ⟨R,0,none⟩)] W1 (RetRs (m.map ruQ) m.length W1):=by
 have h:RpM w R B0 W1 l m v1 v2:=Two.gr' h gW;clear gW;obtain ⟨i0,hi0,hz0,hz1,hz2⟩:=info_parts info_qr;obtain ⟨A,c,hv⟩:=own_form h.o2;subst hv;have hRW:R<W1.heap.size:=Nat.lt_of_lt_of_le h.lt h.sz;have r0:=h.x2;have Hh:=Lib.hid h;have HL:Hid ((m.map ruQ).length=m.length):=Lib.hid (List.length_map _);clear h;go_enter Tryz.func13,Tryz.ntmps13;go_wp2
 go_loopw [3,14] (λv i wr=>∃(k:Nat),k<=m.length/\i= .int .i64 k/\Hid (Gr W1 wr/\wr.ownsRow W1.heap.size 51 3 v k (qrcells ((m.map ruQ).take k)))) (λ_ i _=>m.length-(intOf i).toNat)
 case atStart=>exact ⟨0,Nat.zero_le _,rfl,Lib.hid ⟨Gr.refl _,World.ownsRow_nil _ _ _ _⟩⟩
 case round=>
  obtain ⟨k,hk,rfl,HG⟩:=hrel;obtain ⟨A5,c5,hv5⟩:=own_form HG.out.2;subst hv5;by_cases hlt:k<m.length
  ·have hji:(k:Int)<(m.length:Int):=by omega
   obtain ⟨g,hgA, -,hgz,hcs⟩:=own_blockU Hh.out.o2 (Nat.lt_of_le_of_lt (Nat.zero_le k) hlt);subst hgA;obtain ⟨a0,a1,a2,a3,a4⟩:=rucells_at m k hlt;have gr:=HG.out.1;replace a0:=bc gr hgz (hcs _ _ a0);replace a1:=bc gr hgz (hcs _ _ a1);replace a2:=bc gr hgz (hcs _ _ a2);replace a3:=bc gr hgz (hcs _ _ a3);replace a4:=bc gr hgz (hcs _ _ a4);obtain ⟨s,hsk⟩:∃s,s=m[k]:=⟨_,rfl⟩
   rw[<-hsk] at a0 a1 a2 a3 a4;have hgz1:g<wr.heap.size:=Nat.lt_of_lt_of_le hgz gr.size;have HK:Hid (qrcells ((m.map ruQ).take (k+1))=qrcells ((m.map ruQ).take k)++[.string s.pat, .int .i64 s.kind, .int .i64 s.xff]):=Lib.hid (by
    rw[List.take_add_one,List.getElem?_eq_getElem (by rw[HL.out];exact hlt),List.getElem_map,<-hsk];exact qr_snoc _ _)
   generalize s.g=sg at a3;generalize hcl:s.code.length=cl at a4;have own7:=(HG.out.2.alloc (.cells #[.string s.pat, .int .i64 s.kind, .int .i64 s.xff, .int .i64 sg, .slice s.P cl s.pc] 79)).alloc (.cells #[.string s.pat, .int .i64 s.kind, .int .i64 s.xff] 51);have hrx:Rd ((wr.alloc (.cells #[.string s.pat, .int .i64 s.kind, .int .i64 s.xff, .int .i64 sg, .slice s.P cl s.pc] 79)).alloc (.cells #[.string s.pat, .int .i64 s.kind, .int .i64 s.xff] 51)) 3 (some ⟨wr.heap.size+1,0,none⟩) 1 ([.string s.pat, .int .i64 s.kind, .int .i64 s.xff]:List Value):=Rd.newU (W:=wr.alloc (.cells #[.string s.pat, .int .i64 s.kind, .int .i64 s.xff, .int .i64 sg, .slice s.P cl s.pc] 79)) (by simp) 51 [.string s.pat, .int .i64 s.kind, .int .i64 s.xff] rfl;clear hcl hsk hcs gr;go_wp2_with (at_builtin;refine wpList_append_rd rfl (.tmp 18) (.tmp 21) 43 rfl W1.heap.size 51 i0 _ 3 32 Tryz.underlying43 hi0 hz0 hz1 hz2 rfl (by decide) _ _ _ rfl own7 (some ⟨wr.heap.size+1,0,none⟩) 1 _ ([.string s.pat, .int .i64 s.kind, .int .i64 s.xff]:List Value) rfl hrx (by simp[Value.oneCell']) (by unfold maxLen;omega) (by omega) (by have:=HG.out.1.size;simp;omega) ?_;intro v' w9 own9 hgr9 hat9;obtain ⟨A9,c9,hv9⟩:=own_form own9;subst hv9;have Hg9:=Lib.hid (And.intro own9 hgr9);clear own9 hgr9 hat9 own7 hrx);go_roundw;case rel=>exact ⟨k+1,by omega,by go_num,Lib.hid ⟨Gr.grown (HG.out.1.alloc _ |>.alloc _) Hg9.out.2 (λb hb=>(HG.out.2.lt b hb).1),by rw[HK.out];exact Hg9.out.1⟩⟩
   case measure=>simp[intOf];omega
  ·have hge:¬(k:Int)<(m.length:Int):=by omega
   obtain rfl:k=m.length:=by omega
   go_wp2;go_ret;have e:(m.map ruQ).take m.length=m.map ruQ:=List.take_of_length_le (by rw[HL.out];exact Nat.le_refl _);exact ⟨A5,c5,rfl,by rw[<-e];exact RowQ.own HG.out.2,HG.out.1⟩
end Go.Proofs.YtjapddfnpmlifaaGreatDoor
