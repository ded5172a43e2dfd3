import Derived.Test.YtoncapkmaeghfaaGreatRunLwUpd
import Derived.Test.YtoncapkmaeghfaaGreatRunRwInf
import Derived.Test.YtoncapkmaeghfaaGreatRunRwRng
import Derived.Test.YtoncapkmaeghfaaGreatRunWiHdr
import Derived.Test.YtoncapkmaeghfaaGreatRunWiUpd
import Derived.Test.YtoncapkmaeghfaaGreatRunVfMap
import Derived.Test.YtoncapkmaeghfaaGreatRunRwPas
import Derived.Test.YtoncapkmaeghfaaGreatRunRwMem
import Derived.Deep.Light
import Derived.Test.YtoncapkmaeghfaaGreatRows
import Derived.ProofKit
import Derived.Lib.SmallJoins
import Derived.Deep.SlicePairs
import Derived.Carry
import Derived.ShutString
set_option linter.all false
set_option maxRecDepth 1000000
set_option maxHeartbeats 12800000
namespace Go.Proofs.YtoncapkmaeghfaaGreat
open Go.RowKit
def crtD (ag xf:Int) (l:List (Int×Int)):Option (List UInt8):=bif mayH ag xf l then some (newS ag.toNat xf.toNat (nats l)) else none
theorem crtD_len {ag xf:Int} {l:List (Int×Int)} (h:mayH ag xf l=true→sizeS (nats l)≤3000):∀d,crtD ag xf l=some d→d.length≤3000:=by
 intro d e
 unfold crtD at e
 cases hM:mayH ag xf l with
 | false=>rw[hM] at e;cases e
 | true=>
  rw[hM] at e
  simp only[cond_true] at e
  injection e with e
  rw[←e,(newS_ok _ _ _).1]
  exact h hM
theorem crtD_has {ag xf:Int} {l:List (Int×Int)} (h:mayH ag xf l=true):∃d,crtD ag xf l=some d:=by
 unfold crtD
 rw[h]
 exact ⟨_,rfl⟩
theorem mayH_arc {ag xf:Int} {l:List (Int×Int)} (h:mayH ag xf l=true):∃(a x:Nat) (m:Arcs),ag=a∧xf=x∧l=ints m:=by
 obtain ⟨m,rfl,hm,h1,h2,h3,h4⟩:=mayH_nat h
 exact ⟨ag.toNat,xf.toNat,m,by omega,by omega,rfl⟩
theorem FsM.nowY {Y Y':Nat→Prop} {w:World} {F P M:Nat} {R:Option Nat} {room:Int} {n:Nat} (h:FsM Y w F P M R room n none) (h2:∀k,Y' k→k<w.heap.size):FsM Y' w F P M R room n none:=
 ⟨h.lf,h.lp,h.lm,h.nfp,h.nfm,h.npm,h.f0,h.f1,h.f2,h.p0,h.p1,h.z0,h.z1,h.rr,h2,h.mp⟩
theorem wcrt_first {Y:Nat→Prop} {F P M:Nat} (ag xf:Int) (A:Option Addr) (c:Nat) (l:List (Int×Int)) (hcap:l.length≤c) (hll:l.length≤20) (hS:mayH ag xf l=true→sizeS (nats l)≤3000) (w:World) (h:FsM Y w F P M none 65536 0 none) (hr:Ri w A l) :
  Calls Tryz.prog 11 #[.pointer (some ⟨F,0,none⟩), .string nmA, .agg #[.int .i64 ag, .int .i64 xf, .slice A l.length c]] w fun e w'=>e= .returned (.int .i64 (bif mayH ag xf l then 0 else 1))∧FsM Y w' F P M none 65536 0 (crtD ag xf l)∧Kp (Tch P M none) w w':=by
 unfold crtD
 cases hM:mayH ag xf l with
 | false=>exact (wcreate_bad ag xf A c l (by omega) hM w h hr).mono fun e w' k=>⟨k.1,h.gr k.2,Kp.of_gr _ k.2⟩
 | true=>
  have hs:=hS hM
  obtain ⟨a,x,m,rfl,rfl,rfl⟩:=mayH_arc hM
  rw[nats_ints] at hs
  rw[ints_len] at hcap ⊢
  have:=wcreate_any a x A c m hM hcap (by omega) (by omega) (by omega) w h hr
  rw[nats_ints,Int.toNat_natCast,Int.toNat_natCast]
  exact this
theorem xcrt_first {Y:Nat→Prop} {X:Nat} (ag xf:Int) (A:Option Addr) (c:Nat) (l:List (Int×Int)) (hS:mayH ag xf l=true→sizeS (nats l)≤3000) (w:World) (h:RsM Y w X none 65536 0 none) (hr:Ri w A l) :
  Calls Tryz.prog 12 #[.pointer (some ⟨X,0,none⟩), .string nmA, .agg #[.int .i64 ag, .int .i64 xf, .slice A l.length c]] w fun e w'=>e= .returned (.int .i64 (bif mayH ag xf l then 0 else 1))∧RsM Y w' X none 65536 0 (crtD ag xf l)∧Kp (Xch X none) w w':=by
 unfold crtD
 cases hM:mayH ag xf l with
 | false=>exact (xcrt_bad ag xf A c l hM w h hr).mono fun e w' k=>⟨k.1,h.gr k.2,Kp.of_gr _ k.2⟩
 | true=>
  have hs:=hS hM
  obtain ⟨a,x,m,rfl,rfl,rfl⟩:=mayH_arc hM
  rw[nats_ints] at hs
  rw[ints_len]
  have:=xcrt_any a x A c m hM (by omega) (by omega) (by omega) w h hr
  rw[nats_ints,Int.toNat_natCast,Int.toNat_natCast]
  exact this
theorem wcrt_more {Y:Nat→Prop} {F P M:Nat} {room:Int} {D:Option (List UInt8)} (ag xf:Int) (A:Option Addr) (c:Nat) (l:List (Int×Int)) (hcap:l.length≤c) (hll:l.length≤20) (hD:mayH ag xf l=true→∃d,D=some d) (w:World) (h:FsM Y w F P M none room 0 D) (hr:Ri w A l) :
  Calls Tryz.prog 11 #[.pointer (some ⟨F,0,none⟩), .string nmA, .agg #[.int .i64 ag, .int .i64 xf, .slice A l.length c]] w fun e w'=>e= .returned (.int .i64 (bif mayH ag xf l then 6 else 1))∧Gr w w':=by
 cases hM:mayH ag xf l with
 | false=>exact wcreate_bad ag xf A c l (by omega) hM w h hr
 | true=>
  obtain ⟨d,rfl⟩:=hD hM
  obtain ⟨a,x,m,rfl,rfl,rfl⟩:=mayH_arc hM
  rw[ints_len] at hcap ⊢
  exact wcreate_has a x A c m hM hcap w h hr
theorem xcrt_more {Y:Nat→Prop} {X:Nat} {room:Int} {D:Option (List UInt8)} (ag xf:Int) (A:Option Addr) (c:Nat) (l:List (Int×Int)) (hD:mayH ag xf l=true→∃d,D=some d) (w:World) (h:RsM Y w X none room 0 D) (hr:Ri w A l) :
  Calls Tryz.prog 12 #[.pointer (some ⟨X,0,none⟩), .string nmA, .agg #[.int .i64 ag, .int .i64 xf, .slice A l.length c]] w fun e w'=>e= .returned (.int .i64 (bif mayH ag xf l then 6 else 1))∧Gr w w':=by
 cases hM:mayH ag xf l with
 | false=>exact xcrt_bad ag xf A c l hM w h hr
 | true=>
  obtain ⟨d,rfl⟩:=hD hM
  obtain ⟨a,x,m,rfl,rfl,rfl⟩:=mayH_arc hM
  rw[ints_len]
  exact xcrt_has a x A c m hM w h hr
def infR (D:Option (List UInt8)):(Int×Int)×List (Int×Int)×Int:=
 match D with
 | none=>((0,0),[],5)
 | some d=>match opS d with
  | none=>((0,0),[],2)
  | some (ag,xf,m)=>(((ag:Nat),(xf:Nat)),ints m,0)
theorem infR_len (D:Option (List UInt8)):(infR D).2.1.length≤1000000:=by
 unfold infR
 cases D with
 | none=>simp
 | some d=>
  cases ho:opS d with
  | none=>simp[ho]
  | some p=>
   obtain ⟨ag,xf,m⟩:=p
   simp only[ho]
   obtain ⟨-, -,hM⟩:=opS_of ho
   have:=(MayF.ofH hM).l8
   rw[ints_len]
   omega
def RetIf (r:(Int×Int)×List (Int×Int)×Int) (w:World) (e:Ending) (w':World):Prop:=
 Gr w w'∧∃A c,e= .returned (.tuple #[.agg #[.int .i64 r.1.1, .int .i64 r.1.2, .slice A r.2.1.length c], .int .i64 r.2.2])∧Ri w' A r.2.1
theorem infR_bad {d:List UInt8} (h:opS d=none):infR (some d)=((0,0),[],2):=by simp only[infR,h]
theorem infR_good {d:List UInt8} {ag xf:Nat} {m:Arcs} (h:opS d=some (ag,xf,m)):infR (some d)=(((ag:Int),(xf:Int)),ints m,0):=by simp only[infR,h]
theorem RetIw.sum {D:List UInt8} {w:World} {e:Ending} {w':World} (h:RetIw D w e w'):RetIf (infR (some D)) w e w':=by
 unfold RetIw at h
 have h2:=h.2
 cases ho:opS D with
 | none=>
  rw[infR_bad ho]
  rw[ho] at h2
  simp only at h2
  exact ⟨h.1,none,0,h2,fun h0=>absurd h0 (by simp)⟩
 | some p=>
  obtain ⟨ag,xf,m⟩:=p
  rw[infR_good ho]
  rw[ho] at h2
  simp only at h2
  obtain ⟨A,c,h3, -,h4⟩:=h2
  exact ⟨h.1,A,c,by rw[ints_len];exact h3,h4⟩
theorem winf_sum {Y:Nat→Prop} {F P M:Nat} {room:Int} {D:Option (List UInt8)} (hD:∀l,D=some l→(l.length:Int)≤1073741824) (w:World) (h:FsM Y w F P M none room 0 D):Calls Tryz.prog 15 #[.pointer (some ⟨F,0,none⟩), .string nmA] w (RetIf (infR D) w):=by
 cases D with
 | none=>exact (winfo_none w h).mono fun e w' k=>⟨k.2,none,0,k.1,fun h0=>absurd h0 (by simp[infR])⟩
 | some d=>exact (winfo_any d (hD d rfl) w h).mono fun e w' k=>k.sum
theorem xinf_sum {Y:Nat→Prop} {X:Nat} {room:Int} {D:Option (List UInt8)} (hD:∀l,D=some l→(l.length:Int)≤1073741824) (w:World) (h:RsM Y w X none room 0 D):Calls Tryz.prog 16 #[.pointer (some ⟨X,0,none⟩), .string nmA] w (RetIf (infR D) w):=by
 cases D with
 | none=>exact (xinfo_none w h).mono fun e w' k=>⟨k.2,none,0,k.1,fun h0=>absurd h0 (by simp[infR])⟩
 | some d=>exact (xinfo_any d (hD d rfl) w h).mono fun e w' k=>(RetIn.weak k).sum
def kM:Arcs:=[(1,60),(60,5)]
theorem kM_may:mayH 2 0 (ints kM)=true:=by kernel_rfl
theorem kM_size:sizeS kM=820:=by kernel_rfl
theorem known_n:(updS 2 0 kM 100 [(99,5)] (0,newS 2 0 kM)).1=1:=by kernel_rfl
theorem known_v:fetV kM (updS 2 0 kM 100 [(99,5)] (0,newS 2 0 kM)).2 100 98 99=[⟨true,5⟩]:=by kernel_rfl
theorem known_s:startS kM (whichS kM (100-frS kM 100 98)) (frS kM 100 98)=99:=by kernel_rfl
section
open Go.RowKit Go.ChangeMaps Go.Maps
theorem vnew_any (room:Int) (h0:0≤room) (h1:room≤1073741824) (w:World):Calls Tryz.prog 9 #[.int .i64 room] w fun e w'=>e= .returned (.tuple #[.pointer (some ⟨w.heap.size+3,0,none⟩), .int .i64 0])∧FsM (fun _=>False) w' (w.heap.size+3) (w.heap.size+1) (w.heap.size+2) none room 0 none∧Gr w w':=by
 obtain ⟨V,hV⟩:∃V,V=(((w.alloc (.map #[] 0)).alloc (.cells #[.slice none 0 0, .map (some w.heap.size)] 77)).alloc (.map #[] 0)).alloc (.cells #[.pointer (some ⟨w.heap.size+1,0,none⟩), .int .i64 room, .map (some (w.heap.size+2))] 79):=⟨_,rfl⟩
 have gV:Gr w V:=by rw[hV];exact Gr.alloc (Gr.alloc (Gr.alloc (Gr.alloc (Gr.refl w) _) _) _) _
 have hz:V.heap.size=w.heap.size+4:=by rw[hV];simp
 have hm:V.heap[w.heap.size+2]?=some (.map #[] 0):=by
  rw[hV,heap_alloc_old _ _ (by simp)]
  have e:w.heap.size+2=((w.alloc (.map #[] 0)).alloc (.cells #[.slice none 0 0, .map (some w.heap.size)] 77)).heap.size:=by simp
  rw[e]
  exact heap_alloc_new _ _
 have HF:Hid (FsM (fun _=>False) V (w.heap.size+3) (w.heap.size+1) (w.heap.size+2) none room 0 none):=Lib.hid ⟨by omega,by omega,by omega,by omega,by omega,by omega,by rw[hV];go_simp,by rw[hV];go_simp,by rw[hV];go_simp,
  ⟨.slice none 0 0,[],by rw[hV];go_simp,rfl,World.ownsRow_nil _ _ _ _⟩,⟨.map (some w.heap.size),by rw[hV];go_simp⟩,by rw[hV];go_simp,by rw[hV];go_simp,(fun _ e=>by cases e),(fun _ e=>e.elim),⟨0,hm⟩⟩
 have HV:=Lib.hid hV
 have HG:=Lib.hid gV
 have hm1:¬room<0:=by omega
 have hm2:¬1073741824<room:=by omega
 clear hV gV hm hz
 have hmm:= @run_makeMap Tryz.prog
 go_enter Tryz.func9,Tryz.ntmps9
 go_wp2
 go_ret2
 refine ⟨rfl,?_,?_⟩
 ·
  have:=HF.out
  rw[HV.out] at this
  exact this
 ·
  have:=HG.out
  rw[HV.out] at this
  exact this
end
theorem nmA_eq:(⟨#[97]⟩:ByteArray)=nmA:=by kernel_rfl
theorem gr_tch {w w1 w2:World} {P M:Nat} {R:Option Nat} (g:Gr w w1) (k:Kp (Tch P M R) w1 w2) (hP:w.heap.size≤P) (hM:w.heap.size≤M) (hR:∀i,R=some i→w.heap.size≤i):Gr w w2:=
 ((Kp.of_gr (Tch P M R) g).trans k (fun _ _ e=>e)).gr (fun i hi e=>by
  rcases e with e|e|e
  ·
   omega
  ·
   omega
  ·
   have:=hR i e;omega)
theorem Ri.lit2 (w:World) (a b c d:Int) (T:TypeId):Ri (w.alloc (.cells #[.int .i64 a, .int .i64 b, .int .i64 c, .int .i64 d] T)) (some ⟨w.heap.size,0,none⟩) [(a,b),(c,d)]:=Ri.of_rows fun _=>by
 refine ⟨by simp,fun k hk=>?_⟩
 match k,hk with
 | 0,_=>exact ⟨by go_simp,by go_simp⟩
 | 1,_=>exact ⟨by go_simp,by go_simp⟩
theorem Ri.lit1 (w:World) (a b:Int) (T:TypeId):Ri (w.alloc (.cells #[.int .i64 a, .int .i64 b] T)) (some ⟨w.heap.size,0,none⟩) [(a,b)]:=Ri.of_rows fun _=>by
 refine ⟨by simp,fun k hk=>?_⟩
 match k,hk with
 | 0,_=>exact ⟨by go_simp,by go_simp⟩
theorem known7_any (w:World):Calls Tryz.prog 18 #[] w fun e w'=>e= .returned (.bool true)∧Gr w w':=by
 have hnm:=nmA_eq
 obtain ⟨KD,hKD⟩:∃KD,KD=(updS 2 0 kM 100 [(99,5)] (0,newS 2 0 kM)).2:=⟨_,rfl⟩
 have hF:=MayF.ofH kM_may
 have hok:HdOk 2 0 kM KD:=by rw[hKD];exact HdOk.upd hF _ _ (newS_ok 2 0 kM)
 have hop:=opS_hdr kM_may hok
 have hop0:=opS_hdr kM_may (newS_ok 2 0 kM)
 have hl0:((newS 2 0 kM).length:Int)≤1073741824:=by rw[(newS_ok 2 0 kM).1,kM_size];omega
 have hlK:(KD.length:Int)≤1073741824:=by rw[hok.1,kM_size];omega
 have hv:=known_v
 have hn:=known_n
 rw[←hKD] at hv
 have HK:=Lib.hid (And.intro hop (And.intro hop0 (And.intro hl0 (And.intro hlK (And.intro hv (And.intro hn hKD))))))
 clear hF hok hop hop0 hl0 hlK hv hn hKD hnm
 go_enter Tryz.func18,Tryz.ntmps18
 go_upto_region 3 with (go_at_call 9;refine (vnew_any 65536 (by omega) (by omega) _).mono ?_;rintro e w1 ⟨rfl,hf1,g1⟩;have H1:=Lib.hid (And.intro hf1 g1);clear hf1 g1)
 obtain ⟨V,hV⟩:∃V,V=(w1.alloc (.cells #[.int .i64 1, .int .i64 60, .int .i64 60, .int .i64 5] 69)).alloc (.cells #[.int .i64 2, .int .i64 0, .slice (some ⟨w1.heap.size,0,none⟩) 2 2] 24):=⟨_,rfl⟩
 have gV:Gr w1 V:=by rw[hV];exact Gr.alloc (Gr.alloc (Gr.refl w1) _) _
 have c0:V.cell? ⟨w1.heap.size+1,0,none⟩=some (.int .i64 2):=by rw[hV];go_simp
 have c1:V.cell? ⟨w1.heap.size+1,1,none⟩=some (.int .i64 0):=by rw[hV];go_simp
 have c2:V.cell? ⟨w1.heap.size+1,2,none⟩=some (.slice (some ⟨w1.heap.size,0,none⟩) 2 2):=by rw[hV];go_simp
 have hri:Ri V (some ⟨w1.heap.size,0,none⟩) (ints kM):=by
  rw[hV,show ints kM=[(1,60),(60,5)] from by kernel_rfl]
  exact (Ri.lit2 w1 1 60 60 5 _).gr (Gr.alloc (Gr.refl _) _)
 rw[←hV]
 obtain ⟨F,hF⟩:∃F,F=w.heap.size+3:=⟨_,rfl⟩
 obtain ⟨P,hP⟩:∃P,P=w.heap.size+1:=⟨_,rfl⟩
 obtain ⟨M,hM⟩:∃M,M=w.heap.size+2:=⟨_,rfl⟩
 rw[←hF,←hP,←hM] at H1
 rw[←hF]
 have HPM:=Lib.hid (show w.heap.size≤P∧w.heap.size≤M by omega)
 have hcr:=wcreate_any 2 0 (some ⟨w1.heap.size,0,none⟩) 2 kM kM_may (by decide) (by omega) (by rw[kM_size];omega) (by omega) V (H1.out.1.gr gV) hri
 rw[←nmA_eq] at hcr
 have HCR:Hid (Calls Tryz.prog 11 #[.pointer (some ⟨F,0,none⟩), .string ⟨#[97]⟩, .agg #[.int .i64 2, .int .i64 0, .slice (some ⟨w1.heap.size,0,none⟩) 2 2]] V fun e w'=>e= .returned (.int .i64 0)∧FsM (fun _=>False) w' F P M none 65536 0 (some (newS 2 0 kM))∧Kp (Tch P M none) V w'):=Lib.hid hcr
 have HGV:=Lib.hid (H1.out.2.trans gV)
 clear hV gV hri hF hP hM hcr
 go_upto_region 4 with (go_at_call 11;refine HCR.out.mono ?_;rintro e w2 ⟨rfl,hf2,hk2⟩;have H2:=Lib.hid (And.intro hf2 (gr_tch HGV.out hk2 HPM.out.1 HPM.out.2 (fun _ e=>by cases e)));clear hf2 hk2)
 clear c0 c1 c2
 obtain ⟨V3,hV3⟩:∃V3,V3=w2.alloc (.cells #[.int .i64 99, .int .i64 5] 54):=⟨_,rfl⟩
 have g3:Gr w2 V3:=by rw[hV3];exact Gr.alloc (Gr.refl w2) _
 have hup:=wupdate_any HK.out.2.2.1 HK.out.2.1 100 (by omega) (by omega) (some ⟨w2.heap.size,0,none⟩) 1 [(99,5)] (by decide) (by omega) V3 (H2.out.1.gr g3) (by rw[hV3];exact Ri.lit1 w2 99 5 _) (fun ad e=>by
  injection e with e
  subst e
  intro e
  have h1:=H2.out.1.lp
  have h2:=H2.out.1.lm
  rcases e with e|e|e
  ·
   simp only at e;omega
  ·
   simp only at e;omega
  ·
   cases e)
 rw[←nmA_eq] at hup
 have e1:(updS ((2:Nat):Int) ((0:Nat):Int) kM 100 [(99,5)] (0,newS 2 0 kM)).1=1:=HK.out.2.2.2.2.2.1
 have e2:(updS ((2:Nat):Int) ((0:Nat):Int) kM 100 [(99,5)] (0,newS 2 0 kM)).2=KD:=HK.out.2.2.2.2.2.2.symm
 rw[e1,e2] at hup
 have HUP:Hid (Calls Tryz.prog 23 #[.pointer (some ⟨F,0,none⟩), .string ⟨#[97]⟩, .int .i64 100, .slice (some ⟨w2.heap.size,0,none⟩) 1 1] V3 fun e w'=>e= .returned (.tuple #[.int .i64 1, .int .i64 0])∧FsM (fun _=>False) w' F P M none 65536 0 (some KD)∧Kp (Tch P M none) V3 w'):=Lib.hid hup
 have HG3:=Lib.hid (H2.out.2.trans g3)
 have HV3:=Lib.hid hV3
 clear hup e1 e2 hV3 g3
 have HFE:Hid (∀W,FsM (fun _=>False) W F P M none 65536 0 (some KD)→Calls Tryz.prog 36 #[.pointer (some ⟨F,0,none⟩), .string ⟨#[97]⟩, .int .i64 100, .int .i64 98, .int .i64 99] W fun e w'=>Gr W w'∧∃A c k,e= .returned (.tuple #[.agg #[.string nmA, .int .i64 99, .int .i64 k, .slice A 1 c, .int .i64 0], .int .i64 0])∧Rv w' A [⟨true,5⟩]):=Lib.hid (fun W hW=>by
  have h:=wfetch_any HK.out.2.2.2.1 HK.out.1 100 98 99 (by omega) (by omega) (by omega) (by omega) (by omega) (by rw[show spanS kM=300 from by kernel_rfl];omega) W hW
  rw[←nmA_eq] at h
  refine h.mono ?_
  rintro e w' ⟨hg,A,c,rfl,hr⟩
  rw[HK.out.2.2.2.2.1] at hr ⊢
  rw[known_s]
  exact ⟨hg,A,c,_,rfl,hr⟩)
 go_wp2_with (first|(go_at_call 23;rw[←HV3.out];refine HUP.out.mono ?_;rintro e w4 ⟨rfl,hf4,hk4⟩;have H4:=Lib.hid (And.intro hf4 (gr_tch HG3.out hk4 HPM.out.1 HPM.out.2 (fun _ e=>by cases e)));clear hf4 hk4)|(go_at_call 36;refine (HFE.out _ H4.out.1).mono ?_;rintro e w5 ⟨g5,A,c,k,rfl,hr⟩;obtain ⟨ad,rfl,hb,hx0,hx1⟩:=hr.at (show 0<1 by decide);have y0:w5.cell? ad=some (.bool true):=hx0;have y1:w5.cell? ⟨ad.block,ad.off+1,none⟩=some (.int .i64 5):=hx1;have HG5:=Lib.hid (H4.out.2.trans g5);clear g5 hr hx0 hx1))
 go_ret
 exact ⟨rfl,HG5.out.alloc _⟩
theorem Kp.over {S:Nat→Prop} {wc W W1:World} (hk:Kp S W W1) (g:Gr wc W) (hs:∀k,S k→wc.heap.size≤k):Gr wc W1:=by
 refine Kp.gr (S:=S) ((Kp.of_gr S g).trans hk (fun _ _ e=>e)) (fun k hk e=>?_)
 have:=hs k e
 omega
theorem Rac.gr {w w':World} {A:Option Addr} {l:List Actt} (h:Rac w A l) (g:Gr w w'):Rac w' A l:=fun h0=>by
 obtain ⟨ad,e,hb,hc⟩:=h h0
 have hbk:∀z,(ad.add z).block<w.heap.size:=fun z=>by rw[adB];exact hb
 refine ⟨ad,e,Nat.lt_of_lt_of_le hb g.size,fun k hk=>?_⟩
 obtain ⟨t0,t1,t2,t3,t4,t5⟩:=hc k hk
 exact ⟨(Below.cell g (p:=ad.add (k*6)) (hbk _)).trans t0,(Below.cell g (p:=⟨(ad.add (k*6)).block,(ad.add (k*6)).off+1,none⟩) (hbk _)).trans t1,(Below.cell g (p:=⟨(ad.add (k*6)).block,(ad.add (k*6)).off+2,none⟩) (hbk _)).trans t2,(Below.cell g (p:=⟨(ad.add (k*6)).block,(ad.add (k*6)).off+3,none⟩) (hbk _)).trans t3,(Below.cell g (p:=⟨(ad.add (k*6)).block,(ad.add (k*6)).off+4,none⟩) (hbk _)).trans t4,(Below.cell g (p:=⟨(ad.add (k*6)).block,(ad.add (k*6)).off+5,none⟩) (hbk _)).trans t5⟩
theorem actD_has {a:Actt} {L:List (Int×Int)} {D:Option (List UInt8)} (h:∃d,D=some d):∃d,actD a L D=some d:=by
 obtain ⟨d,rfl⟩:=h
 unfold actD
 by_cases k1:a.kd=1
 ·
  rw[if_pos k1]
  unfold updR
  cases ho:opS d with
  | none=>exact ⟨d,by simp only[ho]⟩
  | some p=>
   obtain ⟨ag,xf,m⟩:=p
   simp only[ho]
   by_cases hn:1≤a.now∧a.now≤4294967295
   ·
    rw[if_pos hn];exact ⟨_,rfl⟩
   ·
    rw[if_neg hn];exact ⟨_,rfl⟩
 ·
  rw[if_neg k1];exact ⟨_,rfl⟩
theorem law_WhisperPlays (ag xf:Int) (A:Option Addr) (c:Nat) (l:List (Int×Int)) (B:Option Addr) (cb:Nat) (q:List Actt) (w:World) (hr:Ri w A l) (hcap:l.length≤c) (hb:Rac w B q)
  (hA:∀k (h:k<q.length),∃L:List (Int×Int),L.length=q[k].np∧Ri w q[k].pa L) :
  Calls Tryz.prog 3 #[.agg #[.int .i64 ag, .int .i64 xf, .slice A l.length c], .slice B q.length cb] w fun e w'=>e= .returned (.bool true)∧Gr w w':=by
 obtain ⟨V,hV⟩:∃V,V=w.alloc (.cells #[.int .i64 ag, .int .i64 xf, .slice A l.length c] 24):=⟨_,rfl⟩
 have gV:Gr w V:=by rw[hV];exact Gr.alloc (Gr.refl w) _
 have hz0:w.heap.size<V.heap.size:=by rw[hV];simp
 have c0:V.cell? ⟨w.heap.size,0,none⟩=some (.int .i64 ag):=by rw[hV];go_simp
 have c1:V.cell? ⟨w.heap.size,1,none⟩=some (.int .i64 xf):=by rw[hV];go_simp
 have c2:V.cell? ⟨w.heap.size,2,none⟩=some (.slice A l.length c):=by rw[hV];go_simp
 have HV:=Lib.hid hV
 have HGV:=Lib.hid gV
 have HRV:=Lib.hid (hr.gr gV)
 have HQA:Hid (∀k (h:k<q.length),∃L:List (Int×Int),L.length=q[k].np∧Ri w q[k].pa L):=Lib.hid hA
 have HQR:=Lib.hid hb
 have hmy:=fun W (hW:Ri W A l)=>rmay_any ag xf A c l W hW
 have hsm:=fun W (hW:Ri W A l)=>small_any ag xf A c l W hW
 have HHV:Hid (∀W,Gr V W→Calls Tryz.prog 8 #[.slice B q.length cb] W (RetHv q W)):=Lib.hid (fun W g=>heavy_any B cb q W (hb.gr (gV.trans g)))
 clear hV gV hr hb hA
 go_enter Tryz.func3,Tryz.ntmps3
 go_upto_region 1 with (fail)
 rw[←HV.out]
 clear HV
 go_cut [30] from 14 to 31 (fun p wx=>∃b,p= .bool b∧Gr V wx∧(b=false→l.length≤20∧(mayH ag xf l=true→sizeS (nats l)≤3000)∧∀k (h:k<q.length),k<60→q[k].np≤30))
 case first=>
  cases hM:mayH ag xf l with
  | true=>
   rw[hM] at hmy
   cases hS:smallB ag xf l with
   | false=>
    rw[hS] at hsm
    have HMY:=Lib.hid hmy
    have HSM:=Lib.hid hsm
    clear hmy hsm hM hS
    go_wp2_with (first|(go_at_call 6;refine (HMY.out _ HRV.out).mono ?_;rintro e w1 ⟨rfl,g1⟩;have d0:=(Below.cell g1 (p:=⟨w.heap.size,0,none⟩) hz0).trans c0;have d1:=(Below.cell g1 (p:=⟨w.heap.size,1,none⟩) hz0).trans c1;have d2:=(Below.cell g1 (p:=⟨w.heap.size,2,none⟩) hz0).trans c2;have hz1:=Nat.lt_of_lt_of_le hz0 g1.size;have HG1:=Lib.hid g1;have HR1:=Lib.hid (HRV.out.gr g1);clear g1)|(go_at_call 7;refine (HSM.out _ HR1.out).mono ?_;rintro e w2 ⟨rfl,g2⟩;have k0:=(Below.cell g2 (p:=⟨w.heap.size,0,none⟩) hz1).trans d0;have k1:=(Below.cell g2 (p:=⟨w.heap.size,1,none⟩) hz1).trans d1;have k2:=(Below.cell g2 (p:=⟨w.heap.size,2,none⟩) hz1).trans d2;have hz2:=Nat.lt_of_lt_of_le hz1 g2.size;have HG2:=Lib.hid (HG1.out.trans g2);clear g2))
    go_meet
    exact ⟨true,rfl,HG2.out,fun e=>by cases e⟩
   | true=>
    rw[hS] at hsm
    have HMY:=Lib.hid hmy
    have HSM:=Lib.hid hsm
    have HSS:=Lib.hid (And.intro hM hS)
    clear hmy hsm hM hS
    by_cases h20:(20:Int)<(l.length:Int)
    ·
     go_wp2_with (first|(go_at_call 6;refine (HMY.out _ HRV.out).mono ?_;rintro e w1 ⟨rfl,g1⟩;have d0:=(Below.cell g1 (p:=⟨w.heap.size,0,none⟩) hz0).trans c0;have d1:=(Below.cell g1 (p:=⟨w.heap.size,1,none⟩) hz0).trans c1;have d2:=(Below.cell g1 (p:=⟨w.heap.size,2,none⟩) hz0).trans c2;have hz1:=Nat.lt_of_lt_of_le hz0 g1.size;have HG1:=Lib.hid g1;have HR1:=Lib.hid (HRV.out.gr g1);clear g1)|(go_at_call 7;refine (HSM.out _ HR1.out).mono ?_;rintro e w2 ⟨rfl,g2⟩;have k0:=(Below.cell g2 (p:=⟨w.heap.size,0,none⟩) hz1).trans d0;have k1:=(Below.cell g2 (p:=⟨w.heap.size,1,none⟩) hz1).trans d1;have k2:=(Below.cell g2 (p:=⟨w.heap.size,2,none⟩) hz1).trans d2;have hz2:=Nat.lt_of_lt_of_le hz1 g2.size;have HG2:=Lib.hid (HG1.out.trans g2);clear g2))
     go_meet
     exact ⟨true,rfl,HG2.out,fun e=>by cases e⟩
    ·
     go_wp2_with (first|(go_at_call 6;refine (HMY.out _ HRV.out).mono ?_;rintro e w1 ⟨rfl,g1⟩;have d0:=(Below.cell g1 (p:=⟨w.heap.size,0,none⟩) hz0).trans c0;have d1:=(Below.cell g1 (p:=⟨w.heap.size,1,none⟩) hz0).trans c1;have d2:=(Below.cell g1 (p:=⟨w.heap.size,2,none⟩) hz0).trans c2;have hz1:=Nat.lt_of_lt_of_le hz0 g1.size;have HG1:=Lib.hid g1;have HR1:=Lib.hid (HRV.out.gr g1);clear g1)|(go_at_call 7;refine (HSM.out _ HR1.out).mono ?_;rintro e w2 ⟨rfl,g2⟩;have k0:=(Below.cell g2 (p:=⟨w.heap.size,0,none⟩) hz1).trans d0;have k1:=(Below.cell g2 (p:=⟨w.heap.size,1,none⟩) hz1).trans d1;have k2:=(Below.cell g2 (p:=⟨w.heap.size,2,none⟩) hz1).trans d2;have hz2:=Nat.lt_of_lt_of_le hz1 g2.size;have HG2:=Lib.hid (HG1.out.trans g2);clear g2)|(go_at_call 8;refine (HHV.out _ HG2.out).mono ?_;rintro e w3 ⟨⟨b,rfl,hbb⟩,g3⟩;have HB:=Lib.hid hbb;have HG3:=Lib.hid (HG2.out.trans g3);clear g3 hbb))
     go_meet
     exact ⟨b,by rw[decide_eq_false (Int.not_lt.2 h20)];rfl,HG3.out,fun e=>⟨by omega,fun _=>(by have h:=HSS.out.2;unfold smallB at h;rw[Bool.and_eq_true,Nat.ble_eq] at h;exact h.2),HB.out e⟩⟩
  | false=>
   rw[hM] at hmy
   have HMY:=Lib.hid hmy
   have HSS:=Lib.hid hM
   clear hmy hM
   by_cases h20:(20:Int)<(l.length:Int)
   ·
    go_wp2_with (go_at_call 6;refine (HMY.out _ HRV.out).mono ?_;rintro e w1 ⟨rfl,g1⟩;have d0:=(Below.cell g1 (p:=⟨w.heap.size,0,none⟩) hz0).trans c0;have d1:=(Below.cell g1 (p:=⟨w.heap.size,1,none⟩) hz0).trans c1;have d2:=(Below.cell g1 (p:=⟨w.heap.size,2,none⟩) hz0).trans c2;have hz1:=Nat.lt_of_lt_of_le hz0 g1.size;have HG1:=Lib.hid g1;have HR1:=Lib.hid (HRV.out.gr g1);clear g1)
    go_meet
    exact ⟨true,rfl,HG1.out,fun e=>by cases e⟩
   ·
    go_wp2_with (first|(go_at_call 6;refine (HMY.out _ HRV.out).mono ?_;rintro e w1 ⟨rfl,g1⟩;have d0:=(Below.cell g1 (p:=⟨w.heap.size,0,none⟩) hz0).trans c0;have d1:=(Below.cell g1 (p:=⟨w.heap.size,1,none⟩) hz0).trans c1;have d2:=(Below.cell g1 (p:=⟨w.heap.size,2,none⟩) hz0).trans c2;have hz1:=Nat.lt_of_lt_of_le hz0 g1.size;have HG1:=Lib.hid g1;have HR1:=Lib.hid (HRV.out.gr g1);clear g1)|(go_at_call 8;refine (HHV.out _ HG1.out).mono ?_;rintro e w3 ⟨⟨b,rfl,hbb⟩,g3⟩;have HB:=Lib.hid hbb;have HG3:=Lib.hid (HG1.out.trans g3);clear g3 hbb))
    go_meet
    exact ⟨b,by rw[decide_eq_false (Int.not_lt.2 h20)];rfl,HG3.out,fun e=>⟨by omega,fun h=>(by rw[HSS.out] at h;cases h),HB.out e⟩⟩
 case rest=>
  obtain ⟨b,rfl,gc,hfac⟩:=hcut
  cases b with
  | true=>
   have HG:=Lib.hid (HGV.out.trans gc)
   clear gc hfac
   go_wp2
   go_ret
   exact ⟨rfl,HG.out⟩
  | false=>
   obtain ⟨h20,hS3,hnp⟩:=hfac rfl
   have HFAC:=Lib.hid (And.intro h20 (And.intro hS3 hnp))
   have HG:=Lib.hid (HGV.out.trans gc)
   have HRC:=Lib.hid (HRV.out.gr gc)
   have HQC:Hid (Gr w wc):=Lib.hid (HGV.out.trans gc)
   obtain ⟨hb,hhb⟩:∃hb,hb=w.heap.size:=⟨_,rfl⟩
   rw[←hhb] at c0 c1 c2 hz0 ⊢
   have h0:=(Below.cell gc (p:=⟨hb,0,none⟩) hz0).trans c0
   have h1:=(Below.cell gc (p:=⟨hb,1,none⟩) hz0).trans c1
   have h2:=(Below.cell gc (p:=⟨hb,2,none⟩) hz0).trans c2
   have zh:=Nat.lt_of_lt_of_le hz0 gc.size
   clear h20 hS3 hnp hfac gc c0 c1 c2 hz0 hhb HGV hmy hsm HRV HHV
   go_upto_region 5 with (first|(go_at_call 9;refine (vnew_any 65536 (by omega) (by omega) _).mono ?_;rintro e w3 ⟨rfl,hf3,g3⟩;have H3:=Lib.hid (And.intro hf3 g3);clear hf3 g3)|(go_at_call 10;refine (xnew_any 65536 (by omega) (by omega) _).mono ?_;rintro e w4 ⟨rfl,h4⟩;have H4:=Lib.hid h4;clear h4))
   obtain ⟨F,hF⟩:∃F,F=wc.heap.size+3:=⟨_,rfl⟩
   obtain ⟨P,hP⟩:∃P,P=wc.heap.size+1:=⟨_,rfl⟩
   obtain ⟨M,hM⟩:∃M,M=wc.heap.size+2:=⟨_,rfl⟩
   obtain ⟨X,hX⟩:∃X,X=w3.heap.size:=⟨_,rfl⟩
   rw[←hF,←hP,←hM] at H3
   have g34:Gr w3 w4:=by rw[H4.out];exact Gr.alloc (Gr.refl w3) _
   have HPR:Hid (Par w4 F P M X 65536 none none):=Lib.hid ⟨(H3.out.1.gr g34).nowY (fun k e=>by rw[e,hX,H4.out];simp),by
    rw[H4.out,hX]
    exact RsM.new _ 65536 w3 (fun k e=>by
     rcases e with e|e|e
     ·
      rw[e];exact H3.out.1.lf
     ·
      rw[e];exact H3.out.1.lp
     ·
      rw[e];exact H3.out.1.lm)⟩
   have HPM:=Lib.hid (show wc.heap.size≤P∧wc.heap.size≤M∧wc.heap.size≤X from ⟨by omega,by omega,by rw[hX];exact H3.out.2.size⟩)
   have HG4:=Lib.hid (H3.out.2.trans g34)
   rw[←hF,←hX]
   clear hF hP hM hX g34 H3 H4
   obtain ⟨er,her⟩:∃er,er=bif mayH ag xf l then (0:Int) else 1:=⟨_,rfl⟩
   have HCR:Hid (∀W,Par W F P M X 65536 none none∧Gr wc W→Calls Tryz.prog 11 #[.pointer (some ⟨F,0,none⟩), .string ⟨#[97]⟩, .agg #[.int .i64 ag, .int .i64 xf, .slice A l.length c]] W fun e w'=>e= .returned (.int .i64 er)∧FsM (fun k=>k=X) w' F P M none 65536 0 (crtD ag xf l)∧Kp (Tch P M none) W w'):=Lib.hid (fun W hW=>by
    rw[her]
    exact wcrt_first ag xf A c l hcap HFAC.out.1 HFAC.out.2.1 W hW.1.fs (HRC.out.gr hW.2))
   have HXC:Hid (∀W W1,Par W F P M X 65536 none none∧Gr wc W→FsM (fun k=>k=X) W1 F P M none 65536 0 (crtD ag xf l)→Kp (Tch P M none) W W1→Calls Tryz.prog 12 #[.pointer (some ⟨X,0,none⟩), .string ⟨#[97]⟩, .agg #[.int .i64 ag, .int .i64 xf, .slice A l.length c]] W1 fun e w'=>e= .returned (.int .i64 er)∧Par w' F P M X 65536 (crtD ag xf l) (crtD ag xf l)∧Gr wc w'):=Lib.hid (fun W W1 hW hf hk=>by
    have hrs:=hW.1.rs.kp hk (fun g _ e=>by
     rcases e with e|e|e
     ·
      exact .inr (.inl e)
     ·
      exact .inr (.inr e)
     ·
      cases e)
    have g1:Gr wc W1:=hk.over hW.2 (fun k e=>by
     rcases e with e|e|e
     ·
      rw[e];exact HPM.out.1
     ·
      rw[e];exact HPM.out.2.1
     ·
      cases e)
    rw[her]
    refine (xcrt_first ag xf A c l HFAC.out.2.1 W1 hrs (HRC.out.gr g1)).mono ?_
    rintro e w' ⟨e1,e2,e3⟩
    have hp:Par W1 F P M X 65536 (crtD ag xf l) none:=⟨hf,hrs⟩
    exact ⟨e1,hp.right e2 e3,e3.over g1 (fun k e=>by
     rcases e with e|e
     ·
      rw[e];exact HPM.out.2.2
     ·
      cases e)⟩)
   clear her
   have hS0:Gr wc w4.drew:=HG4.out.trans (Gr.drew (Gr.refl _))
   have HW0:Hid (Par w4.drew F P M X 65536 none none∧Gr wc w4.drew):=Lib.hid ⟨HPR.out.gr (Gr.drew (Gr.refl _)),hS0⟩
   refine wp_region_Z 10 (Gr wc) (by kernel_rfl) ?_
   obtain ⟨W0,hW0⟩:∃W0,W0=w4.drew:=⟨_,rfl⟩
   rw[←hW0] at hS0 HW0 ⊢
   clear hW0 HPR HG4
   refine wpAnyZ_take (i:=0) (v:=?tv1) rfl (by kernel_rfl) (fun _ _ _ h=>h) (by kernel_rfl) (fun W hS=>?th2) hS0 ?tr3
   case th2=>go_light;go_simp;rfl
   simp only[Act.put,List.getElem_toArray,List.getElem_cons_succ,List.getElem_cons_zero,List.setIfInBounds_toArray,List.set_cons_zero,List.set_cons_succ]
   refine wpAnyZ_take (i:=1) (v:=?tv4) rfl (by kernel_rfl) (fun _ _ _ h=>h) (by kernel_rfl) (fun W hS=>?th5) hS0 ?tr6
   case th5=>go_light;go_simp;rfl
   simp only[Act.put,List.getElem_toArray,List.getElem_cons_succ,List.getElem_cons_zero,List.setIfInBounds_toArray,List.set_cons_zero,List.set_cons_succ]
   refine wpAnyZ_take (i:=2) (v:=?tv7) rfl (by kernel_rfl) (fun _ _ _ h=>h) (by kernel_rfl) (fun W hS=>?th8) hS0 ?tr9
   case th8=>go_light;go_simp;rfl
   simp only[Act.put,List.getElem_toArray,List.getElem_cons_succ,List.getElem_cons_zero,List.setIfInBounds_toArray,List.set_cons_zero,List.set_cons_succ]
   refine wpAnyZ_take (i:=3) (v:=?tv10) rfl (by kernel_rfl) (fun _ _ _ h=>h) (by kernel_rfl) (fun W hS=>?th11) hS0 ?tr12
   case th11=>go_light;go_simp;rfl
   simp only[Act.put,List.getElem_toArray,List.getElem_cons_succ,List.getElem_cons_zero,List.setIfInBounds_toArray,List.set_cons_zero,List.set_cons_succ]
   refine wpAnyZ_take (i:=4) (v:=?tv13) rfl (by kernel_rfl) (fun _ _ _ h=>h) (by kernel_rfl) (fun W hS=>?th14) hS0 ?tr15
   case th14=>have e0:=(Below.cell hS (p:=⟨hb,0,none⟩) zh).trans h0;have e1:=(Below.cell hS (p:=⟨hb,1,none⟩) zh).trans h1;have e2:=(Below.cell hS (p:=⟨hb,2,none⟩) zh).trans h2;go_light;go_simp;rfl
   simp only[Act.put,List.getElem_toArray,List.getElem_cons_succ,List.getElem_cons_zero,List.setIfInBounds_toArray,List.set_cons_zero,List.set_cons_succ]
   refine wpAnyZ_take (i:=6) (v:=?tv16) rfl (by kernel_rfl) (fun _ _ _ h=>h) (by kernel_rfl) (fun W hS=>?th17) hS0 ?tr18
   case th17=>go_light;go_simp;rfl
   simp only[Act.put,List.getElem_toArray,List.getElem_cons_succ,List.getElem_cons_zero,List.setIfInBounds_toArray,List.set_cons_zero,List.set_cons_succ]
   refine wpAnyZ_take (i:=7) (v:=?tv19) rfl (by kernel_rfl) (fun _ _ _ h=>h) (by kernel_rfl) (fun W hS=>?th20) hS0 ?tr21
   case th20=>have e0:=(Below.cell hS (p:=⟨hb,0,none⟩) zh).trans h0;have e1:=(Below.cell hS (p:=⟨hb,1,none⟩) zh).trans h1;have e2:=(Below.cell hS (p:=⟨hb,2,none⟩) zh).trans h2;go_light;go_simp;rfl
   simp only[Act.put,List.getElem_toArray,List.getElem_cons_succ,List.getElem_cons_zero,List.setIfInBounds_toArray,List.set_cons_zero,List.set_cons_succ]
   refine wpAnyZ_ready (rs:=[5]) (by kernel_rfl) (by simp) ?_
   refine AllReadyZ.cons (i:=5) rfl (by kernel_rfl) ?zx22 AllReadyZ.nil
   intro K hK
   simp only[List.getElem_toArray,List.getElem_cons_succ,List.getElem_cons_zero]
   go_simp
   refine (HCR.out W0 HW0.out).mono ?_;rintro x W1 ⟨rfl,hf1,hk1⟩
   have hS1:Gr wc W1:=hk1.over hS0 (fun k e=>by
    rcases e with e|e|e
    ·
     rw[e];exact HPM.out.1
    ·
     rw[e];exact HPM.out.2.1
    ·
     cases e)
   have H1:=Lib.hid (And.intro hf1 hk1)
   clear hf1 hk1 hS0
   go_wp2_with fail
   refine hK.out _ _ (fun hnz=>?zs23) (fun _=>?zr24)
   case zs23=>exact hS1
   clear hK K
   try (simp only[Pu,List.getElem_toArray,List.getElem_cons_succ,List.getElem_cons_zero])
   refine wpAnyZ_ready (rs:=[8]) (by kernel_rfl) (by simp) ?_
   refine AllReadyZ.cons (i:=8) rfl (by kernel_rfl) ?zx25 AllReadyZ.nil
   intro K hK
   simp only[List.getElem_toArray,List.getElem_cons_succ,List.getElem_cons_zero]
   go_simp
   refine (HXC.out W0 W1 HW0.out H1.out.1 H1.out.2).mono ?_;rintro x W2 ⟨rfl,hp2,hg2⟩
   have hS2:Gr wc W2:=hg2
   have H2:=Lib.hid hp2
   clear hp2 hg2 hS1
   go_wp2_with fail
   refine hK.out _ _ (fun hnz=>?zs26) (fun _=>?zr27)
   case zs26=>exact hS2
   clear hK K
   try (simp only[Pu,List.getElem_toArray,List.getElem_cons_succ,List.getElem_cons_zero])
   refine wpAnyZ_take (i:=9) (v:=?tv28) rfl (by kernel_rfl) (fun _ _ _ h=>h) (by kernel_rfl) (fun W hS=>?th29) hS2 ?tr30
   case th29=>
    have e0:(er != er)=false:=by simp
    go_light
    go_simp
    rfl
   simp only[Act.put,List.getElem_toArray,List.getElem_cons_succ,List.getElem_cons_zero,List.setIfInBounds_toArray,List.set_cons_zero,List.set_cons_succ]
   refine wpAnyZ_ready (rs:=[10]) (by kernel_rfl) (by simp) ?_
   refine AllReadyZ.cons (i:=10) rfl (by kernel_rfl) ?zx31 AllReadyZ.nil
   intro K hK
   simp only[List.getElem_toArray,List.getElem_cons_succ,List.getElem_cons_zero]
   go_simp
   go_wp2_with fail
   refine hK.out _ _ (fun hnz=>?zs32) (fun _=>?zr33)
   case zs32=>exact absurd rfl hnz
   clear hK K
   try (simp only[Pu,List.getElem_toArray,List.getElem_cons_succ,List.getElem_cons_zero])
   refine wpAnyZ_done (by kernel_rfl) ?_ _
   have HS2:=Lib.hid hS2
   clear hS2 HCR HXC HW0 H1
   go_wp2
   go_loopw [9] (fun i wr=>∃(j:Nat) (D:Option (List UInt8)),j≤q.length∧j≤60∧i= .int .i64 j∧Gr wc wr∧Par wr F P M X 65536 D D∧Hid ((∀d,D=some d→d.length≤3000)∧(mayH ag xf l=true→∃d,D=some d))) (fun i _=>q.length-(intOf i).toNat)
   case atStart=>exact ⟨0,_,Nat.zero_le _,by decide,rfl,HS2.out,H2.out,Lib.hid ⟨crtD_len HFAC.out.2.1,crtD_has⟩⟩
   case round=>
    obtain ⟨j,D,hj,hj6,rfl,hgr,hpr,HDF⟩:=hrel
    have HGR:=Lib.hid hgr
    have HPR:=Lib.hid hpr
    by_cases hlt:j<q.length
    ·
     have hlti:(j:Int)<(q.length:Int):=by omega
     by_cases h60:j<60
     ·
      have h60i:(j:Int)<60:=by omega
      obtain ⟨L,hLl,hLr⟩:=HQA.out j hlt
      have hnp:=HFAC.out.2.2 j hlt h60
      obtain ⟨bd,rfl,hbd,hbc⟩:=HQR.out (by omega)
      have hbc2:∀z,(bd.add z).block<w.heap.size:=fun z=>by rw[adB];exact hbd
      have hbn:∀z,(bd.add z).block<wc.heap.size:=fun z=>Nat.lt_of_lt_of_le (hbc2 z) HQC.out.size
      obtain ⟨t0,t1,t2,t3,t4,t5⟩:=hbc j hlt
      obtain ⟨a,ha⟩:∃a,a=q[j]:=⟨_,rfl⟩
      rw[←ha] at t0 t1 t2 t3 t4 t5 hLl hLr hnp
      have t0:=(Below.cell HQC.out (p:=bd.add (j*6)) (hbc2 _)).trans t0
      have t1:=(Below.cell HQC.out (p:=⟨(bd.add (j*6)).block,(bd.add (j*6)).off+1,none⟩) (hbc2 _)).trans t1
      have t2:=(Below.cell HQC.out (p:=⟨(bd.add (j*6)).block,(bd.add (j*6)).off+2,none⟩) (hbc2 _)).trans t2
      have t3:=(Below.cell HQC.out (p:=⟨(bd.add (j*6)).block,(bd.add (j*6)).off+3,none⟩) (hbc2 _)).trans t3
      have t4:=(Below.cell HQC.out (p:=⟨(bd.add (j*6)).block,(bd.add (j*6)).off+4,none⟩) (hbc2 _)).trans t4
      have t5:=(Below.cell HQC.out (p:=⟨(bd.add (j*6)).block,(bd.add (j*6)).off+5,none⟩) (hbc2 _)).trans t5
      obtain ⟨D2,hD2⟩:∃D2,D2=actD a L D:=⟨_,rfl⟩
      have HD2:Hid ((∀d,D2=some d→d.length≤3000)∧(mayH ag xf l=true→∃d,D2=some d)):=Lib.hid ⟨by rw[hD2];exact actD_len HDF.out.1,fun h=>by rw[hD2];exact actD_has (HDF.out.2 h)⟩
      have HAC:Hid (∀W,Gr wr W→Calls Tryz.prog 13 #[.pointer (some ⟨F,0,none⟩), .pointer (some ⟨X,0,none⟩), .agg #[.int .i64 ag, .int .i64 xf, .slice A l.length c], .agg #[.int .i64 a.kd, .int .i64 a.now, .int .i64 a.frm, .int .i64 a.unt, .int .i64 a.ix, .slice a.pa a.np a.pc]] W (RetAc F P M X 65536 D2 W)):=Lib.hid (fun W hW=>by
       have gW:Gr wc W:=HGR.out.trans hW
       have pW:=HPR.out.gr hW
       rw[hD2]
       refine act_any (fun d e=>by have:=HDF.out.1 d e;omega) ag xf A l.length c a L hLl (by omega) W pW (hLr.gr (HQC.out.trans gW)) (fun h0 ad e=>?_) (bif mayH ag xf l then 6 else 1) (fun W2 g2=>wcrt_more ag xf A c l hcap HFAC.out.1 HDF.out.2 W2 (pW.gr g2).fs (HRC.out.gr (gW.trans g2))) (fun W2 g2=>xcrt_more ag xf A c l HDF.out.2 W2 (pW.gr g2).rs (HRC.out.gr (gW.trans g2)))
       obtain ⟨ad2,e2,hb2, -⟩:=hLr h0
       rw[e] at e2
       injection e2 with e2
       subst e2
       have h1:=HPM.out
       have h2:=HQC.out.size
       omega)
      have HBY:Hid (∀W,Par W F P M X 65536 D2 D2→Calls Tryz.prog 14 #[.pointer (some ⟨F,0,none⟩), .pointer (some ⟨X,0,none⟩)] W fun e w'=>e= .returned (.bool true)∧Gr W w'):=Lib.hid (fun W hW=>by
       have hl:=HD2.out.1
       cases D2 with
       | none=>exact bytes_none W hW.fs hW.rs
       | some d=>exact bytes_some (by have:=hl d rfl;omega) W hW.fs hW.rs)
      have hjj:IntKind.i64.wrap (j:Int)=(j:Int):=IntWalk.i64_in _ (by omega)
      obtain ⟨kd,now,frm,unt,ix,pa,np,pc⟩:=a
      clear hLl hLr hnp hbd hbc hbc2 ha hD2 hpr
      simp only at t0 t1 t2 t3 t4 t5 HAC
      go_upto_region 10 with (fail)
      refine wp_region_Z 14 (Gr wc) (by kernel_rfl) ?_
      have hS0:Gr wc wr.drew:=hgr.trans (Gr.drew (Gr.refl _))
      have HG0:Hid (Gr wr wr.drew):=Lib.hid (Gr.drew (Gr.refl _))
      obtain ⟨W0,hW0⟩:∃W0,W0=wr.drew:=⟨_,rfl⟩
      rw[←hW0] at hS0 HG0 ⊢
      have HGR0:=Lib.hid hS0
      clear hW0 hgr
      refine wpAnyZ_take (i:=0) (v:=?tv34) rfl (by kernel_rfl) (fun _ _ _ h=>h) (by kernel_rfl) (fun W hS=>?th35) hS0 ?tr36
      case th35=>go_light;go_simp;rfl
      simp only[Act.put,List.getElem_toArray,List.getElem_cons_succ,List.getElem_cons_zero,List.setIfInBounds_toArray,List.set_cons_zero,List.set_cons_succ]
      refine wpAnyZ_take (i:=1) (v:=?tv37) rfl (by kernel_rfl) (fun _ _ _ h=>h) (by kernel_rfl) (fun W hS=>?th38) hS0 ?tr39
      case th38=>go_light;go_simp;rfl
      simp only[Act.put,List.getElem_toArray,List.getElem_cons_succ,List.getElem_cons_zero,List.setIfInBounds_toArray,List.set_cons_zero,List.set_cons_succ]
      refine wpAnyZ_take (i:=2) (v:=?tv40) rfl (by kernel_rfl) (fun _ _ _ h=>h) (by kernel_rfl) (fun W hS=>?th41) hS0 ?tr42
      case th41=>have e0:=(Below.cell hS (p:=⟨hb,0,none⟩) zh).trans h0;have e1:=(Below.cell hS (p:=⟨hb,1,none⟩) zh).trans h1;have e2:=(Below.cell hS (p:=⟨hb,2,none⟩) zh).trans h2;go_light;go_simp;rfl
      simp only[Act.put,List.getElem_toArray,List.getElem_cons_succ,List.getElem_cons_zero,List.setIfInBounds_toArray,List.set_cons_zero,List.set_cons_succ]
      refine wpAnyZ_take (i:=3) (v:=?tv43) rfl (by kernel_rfl) (fun _ _ _ h=>h) (by kernel_rfl) (fun W hS=>?th44) hS0 ?tr45
      case th44=>go_light;go_simp;rfl
      simp only[Act.put,List.getElem_toArray,List.getElem_cons_succ,List.getElem_cons_zero,List.setIfInBounds_toArray,List.set_cons_zero,List.set_cons_succ]
      refine wpAnyZ_take (i:=4) (v:=?tv46) rfl (by kernel_rfl) (fun _ _ _ h=>h) (by kernel_rfl) (fun W hS=>?th47) hS0 ?tr48
      case th47=>go_light;go_simp;rfl
      simp only[Act.put,List.getElem_toArray,List.getElem_cons_succ,List.getElem_cons_zero,List.setIfInBounds_toArray,List.set_cons_zero,List.set_cons_succ]
      refine wpAnyZ_take (i:=5) (v:=?tv49) rfl (by kernel_rfl) (fun _ _ _ h=>h) (by kernel_rfl) (fun W hS=>?th50) hS0 ?tr51
      case th50=>go_light;go_simp;rfl
      simp only[Act.put,List.getElem_toArray,List.getElem_cons_succ,List.getElem_cons_zero,List.setIfInBounds_toArray,List.set_cons_zero,List.set_cons_succ]
      refine wpAnyZ_take (i:=6) (v:=?tv52) rfl (by kernel_rfl) (fun _ _ _ h=>h) (by kernel_rfl) (fun W hS=>?th53) hS0 ?tr54
      case th53=>
       have e0:=(Below.cell hS (p:=bd.add (j*6)) (hbn _)).trans t0
       have e1:=(Below.cell hS (p:=⟨(bd.add (j*6)).block,(bd.add (j*6)).off+1,none⟩) (hbn _)).trans t1
       have e2:=(Below.cell hS (p:=⟨(bd.add (j*6)).block,(bd.add (j*6)).off+2,none⟩) (hbn _)).trans t2
       have e3:=(Below.cell hS (p:=⟨(bd.add (j*6)).block,(bd.add (j*6)).off+3,none⟩) (hbn _)).trans t3
       have e4:=(Below.cell hS (p:=⟨(bd.add (j*6)).block,(bd.add (j*6)).off+4,none⟩) (hbn _)).trans t4
       have e5:=(Below.cell hS (p:=⟨(bd.add (j*6)).block,(bd.add (j*6)).off+5,none⟩) (hbn _)).trans t5
       go_light
       go_simp
       rfl
      simp only[Act.put,List.getElem_toArray,List.getElem_cons_succ,List.getElem_cons_zero,List.setIfInBounds_toArray,List.set_cons_zero,List.set_cons_succ]
      refine wpAnyZ_ready (rs:=[7]) (by kernel_rfl) (by simp) ?_
      refine AllReadyZ.cons (i:=7) rfl (by kernel_rfl) ?zx55 AllReadyZ.nil
      intro K hK
      simp only[List.getElem_toArray,List.getElem_cons_succ,List.getElem_cons_zero]
      go_simp
      refine (HAC.out W0 HG0.out).mono ?_;rintro x W1 ⟨rfl,hp1,hk1⟩
      have hS1:Gr wc W1:=hk1.over hS0 (fun k e=>by
       rcases e with e|e|e
       ·
        rw[e];exact HPM.out.1
       ·
        rw[e];exact HPM.out.2.1
       ·
        rw[e];exact HPM.out.2.2)
      have H1:=Lib.hid hp1
      clear hp1 hk1 hS0
      go_wp2_with fail
      refine hK.out _ _ (fun hnz=>?zs56) (fun _=>?zr57)
      case zs56=>exact hS1
      clear hK K
      try (simp only[Pu,List.getElem_toArray,List.getElem_cons_succ,List.getElem_cons_zero])
      refine wpAnyZ_take (i:=8) (v:=?tv58) rfl (by kernel_rfl) (fun _ _ _ h=>h) (by kernel_rfl) (fun W hS=>?th59) hS1 ?tr60
      case th59=>go_light;go_simp;rfl
      simp only[Act.put,List.getElem_toArray,List.getElem_cons_succ,List.getElem_cons_zero,List.setIfInBounds_toArray,List.set_cons_zero,List.set_cons_succ]
      refine wpAnyZ_take (i:=9) (v:=?tv61) rfl (by kernel_rfl) (fun _ _ _ h=>h) (by kernel_rfl) (fun W hS=>?th62) hS1 ?tr63
      case th62=>go_light;go_simp;rfl
      simp only[Act.put,List.getElem_toArray,List.getElem_cons_succ,List.getElem_cons_zero,List.setIfInBounds_toArray,List.set_cons_zero,List.set_cons_succ]
      refine wpAnyZ_take (i:=10) (v:=?tv64) rfl (by kernel_rfl) (fun _ _ _ h=>h) (by kernel_rfl) (fun W hS=>?th65) hS1 ?tr66
      case th65=>go_light;go_simp;rfl
      simp only[Act.put,List.getElem_toArray,List.getElem_cons_succ,List.getElem_cons_zero,List.setIfInBounds_toArray,List.set_cons_zero,List.set_cons_succ]
      refine wpAnyZ_take (i:=11) (v:=?tv67) rfl (by kernel_rfl) (fun _ _ _ h=>h) (by kernel_rfl) (fun W hS=>?th68) hS1 ?tr69
      case th68=>go_light;go_simp;rfl
      simp only[Act.put,List.getElem_toArray,List.getElem_cons_succ,List.getElem_cons_zero,List.setIfInBounds_toArray,List.set_cons_zero,List.set_cons_succ]
      refine wpAnyZ_ready (rs:=[12]) (by kernel_rfl) (by simp) ?_
      refine AllReadyZ.cons (i:=12) rfl (by kernel_rfl) ?zx70 AllReadyZ.nil
      intro K hK
      simp only[List.getElem_toArray,List.getElem_cons_succ,List.getElem_cons_zero]
      go_simp
      refine (HBY.out W1 H1.out).mono ?_;rintro x W2 ⟨rfl,g2⟩
      have hS2:Gr wc W2:=hS1.trans g2
      have H2:=Lib.hid (H1.out.gr g2)
      clear g2 hS1
      go_wp2_with fail
      refine hK.out _ _ (fun hnz=>?zs71) (fun _=>?zr72)
      case zs71=>exact hS2
      clear hK K
      try (simp only[Pu,List.getElem_toArray,List.getElem_cons_succ,List.getElem_cons_zero])
      refine wpAnyZ_take (i:=13) (v:=?tv73) rfl (by kernel_rfl) (fun _ _ _ h=>h) (by kernel_rfl) (fun W hS=>?th74) hS2 ?tr75
      case th74=>go_light;go_simp;rfl
      simp only[Act.put,List.getElem_toArray,List.getElem_cons_succ,List.getElem_cons_zero,List.setIfInBounds_toArray,List.set_cons_zero,List.set_cons_succ]
      refine wpAnyZ_ready (rs:=[14]) (by kernel_rfl) (by simp) ?_
      refine AllReadyZ.cons (i:=14) rfl (by kernel_rfl) ?zx76 AllReadyZ.nil
      intro K hK
      simp only[List.getElem_toArray,List.getElem_cons_succ,List.getElem_cons_zero]
      go_simp
      go_wp2_with fail
      refine hK.out _ _ (fun hnz=>?zs77) (fun _=>?zr78)
      case zs77=>exact absurd rfl hnz
      clear hK K
      try (simp only[Pu,List.getElem_toArray,List.getElem_cons_succ,List.getElem_cons_zero])
      refine wpAnyZ_done (by kernel_rfl) ?_ _
      have HS2:=Lib.hid hS2
      clear hS2 t0 t1 t2 t3 t4 t5 hbn
      go_wp2
      go_roundw
      case rel=>exact ⟨j+1,D2,by omega,by omega,by go_num,HS2.out,H2.out,HD2⟩
      case measure=>simp[intOf];omega
     ·
      have h60i:¬(j:Int)<60:=by omega
      clear hgr hpr
      have HIN:Hid (∀W,Gr wr W→Calls Tryz.prog 15 #[.pointer (some ⟨F,0,none⟩), .string ⟨#[97]⟩] W (RetIf (infR D) W)):=Lib.hid (fun W g=>winf_sum (fun d e=>by have:=HDF.out.1 d e;omega) W (HPR.out.gr g).fs)
      have HXI:Hid (∀W,Gr wr W→Calls Tryz.prog 16 #[.pointer (some ⟨X,0,none⟩), .string ⟨#[97]⟩] W (RetIf (infR D) W)):=Lib.hid (fun W g=>xinf_sum (fun d e=>by have:=HDF.out.1 d e;omega) W (HPR.out.gr g).rs)
      have hrl:=infR_len D
      obtain ⟨⟨⟨r1,r2⟩,rl,re⟩,hrr⟩:∃r,r=infR D:=⟨_,rfl⟩
      rw[←hrr] at HIN HXI hrl
      clear hrr
      simp only[RetIf] at HIN HXI hrl
      have hree:(re==re)=true:=by simp
      go_upto_region 13 with (go_at_call 15;refine (HIN.out _ (Gr.refl _)).mono ?_;rintro e w5 ⟨g5,A5,c5,rfl,hr5⟩;have H5:=Lib.hid (And.intro g5 hr5);clear g5 hr5)
      obtain ⟨V5,hV5⟩:∃V5,V5=w5.alloc (.cells #[.int .i64 r1, .int .i64 r2, .slice A5 rl.length c5] 24):=⟨_,rfl⟩
      have gV5:Gr w5 V5:=by rw[hV5];exact Gr.alloc (Gr.refl w5) _
      have m0:V5.cell? ⟨w5.heap.size,0,none⟩=some (.int .i64 r1):=by rw[hV5];go_simp
      have m1:V5.cell? ⟨w5.heap.size,1,none⟩=some (.int .i64 r2):=by rw[hV5];go_simp
      have m2:V5.cell? ⟨w5.heap.size,2,none⟩=some (.slice A5 rl.length c5):=by rw[hV5];go_simp
      have zm:w5.heap.size<V5.heap.size:=by rw[hV5];simp
      have HV5:=Lib.hid hV5
      have HG5:=Lib.hid (And.intro (H5.out.1.trans gV5) (H5.out.2.gr gV5))
      obtain ⟨mb,hmb⟩:∃mb,mb=w5.heap.size:=⟨_,rfl⟩
      rw[←hmb] at m0 m1 m2 zm ⊢
      rw[←HV5.out]
      clear hV5 gV5 hmb HV5
      go_upto_region 14 with (go_at_call 16;refine (HXI.out _ HG5.out.1).mono ?_;rintro e w6 ⟨g6,A6,c6,rfl,hr6⟩;have n0:=(Below.cell g6 (p:=⟨mb,0,none⟩) zm).trans m0;have n1:=(Below.cell g6 (p:=⟨mb,1,none⟩) zm).trans m1;have n2:=(Below.cell g6 (p:=⟨mb,2,none⟩) zm).trans m2;have zn:=Nat.lt_of_lt_of_le zm g6.size;have H6:=Lib.hid (And.intro (HG5.out.1.trans g6) (And.intro hr6 (HG5.out.2.gr g6)));clear g6 hr6)
      clear m0 m1 m2 zm
      obtain ⟨V6,hV6⟩:∃V6,V6=w6.alloc (.cells #[.int .i64 r1, .int .i64 r2, .slice A6 rl.length c6] 24):=⟨_,rfl⟩
      have gV6:Gr w6 V6:=by rw[hV6];exact Gr.alloc (Gr.refl w6) _
      have y0:V6.cell? ⟨w6.heap.size,0,none⟩=some (.int .i64 r1):=by rw[hV6];go_simp
      have y1:V6.cell? ⟨w6.heap.size,1,none⟩=some (.int .i64 r2):=by rw[hV6];go_simp
      have y2:V6.cell? ⟨w6.heap.size,2,none⟩=some (.slice A6 rl.length c6):=by rw[hV6];go_simp
      have m0:=(Below.cell gV6 (p:=⟨mb,0,none⟩) zn).trans n0
      have m1:=(Below.cell gV6 (p:=⟨mb,1,none⟩) zn).trans n1
      have m2:=(Below.cell gV6 (p:=⟨mb,2,none⟩) zn).trans n2
      have HHD:=Lib.hid (headers_same r1 r2 A5 A6 c5 c6 rl hrl V6 (H6.out.2.2.gr gV6) (H6.out.2.1.gr gV6))
      have HG6:=Lib.hid (H6.out.1.trans gV6)
      rw[←hV6]
      clear hV6 gV6 n0 n1 n2 zn hrl
      go_wp2_with (first|(go_at_call 17;refine HHD.out.mono ?_;rintro e w7 ⟨rfl,g7⟩;have H7:=Lib.hid (HG6.out.trans g7);clear g7)|(go_at_call 18;refine (known7_any _).mono ?_;rintro e w8 ⟨rfl,g8⟩;have H8:=Lib.hid (H7.out.trans g8);clear g8))
      go_ret
      exact ⟨by simp,(HQC.out.trans HGR.out).trans H8.out⟩
    ·
     have hlti:¬(j:Int)<(q.length:Int):=by omega
     clear hgr hpr
     have HIN:Hid (∀W,Gr wr W→Calls Tryz.prog 15 #[.pointer (some ⟨F,0,none⟩), .string ⟨#[97]⟩] W (RetIf (infR D) W)):=Lib.hid (fun W g=>winf_sum (fun d e=>by have:=HDF.out.1 d e;omega) W (HPR.out.gr g).fs)
     have HXI:Hid (∀W,Gr wr W→Calls Tryz.prog 16 #[.pointer (some ⟨X,0,none⟩), .string ⟨#[97]⟩] W (RetIf (infR D) W)):=Lib.hid (fun W g=>xinf_sum (fun d e=>by have:=HDF.out.1 d e;omega) W (HPR.out.gr g).rs)
     have hrl:=infR_len D
     obtain ⟨⟨⟨r1,r2⟩,rl,re⟩,hrr⟩:∃r,r=infR D:=⟨_,rfl⟩
     rw[←hrr] at HIN HXI hrl
     clear hrr
     simp only[RetIf] at HIN HXI hrl
     have hree:(re==re)=true:=by simp
     go_upto_region 13 with (go_at_call 15;refine (HIN.out _ (Gr.refl _)).mono ?_;rintro e w5 ⟨g5,A5,c5,rfl,hr5⟩;have H5:=Lib.hid (And.intro g5 hr5);clear g5 hr5)
     obtain ⟨V5,hV5⟩:∃V5,V5=w5.alloc (.cells #[.int .i64 r1, .int .i64 r2, .slice A5 rl.length c5] 24):=⟨_,rfl⟩
     have gV5:Gr w5 V5:=by rw[hV5];exact Gr.alloc (Gr.refl w5) _
     have m0:V5.cell? ⟨w5.heap.size,0,none⟩=some (.int .i64 r1):=by rw[hV5];go_simp
     have m1:V5.cell? ⟨w5.heap.size,1,none⟩=some (.int .i64 r2):=by rw[hV5];go_simp
     have m2:V5.cell? ⟨w5.heap.size,2,none⟩=some (.slice A5 rl.length c5):=by rw[hV5];go_simp
     have zm:w5.heap.size<V5.heap.size:=by rw[hV5];simp
     have HV5:=Lib.hid hV5
     have HG5:=Lib.hid (And.intro (H5.out.1.trans gV5) (H5.out.2.gr gV5))
     obtain ⟨mb,hmb⟩:∃mb,mb=w5.heap.size:=⟨_,rfl⟩
     rw[←hmb] at m0 m1 m2 zm ⊢
     rw[←HV5.out]
     clear hV5 gV5 hmb HV5
     go_upto_region 14 with (go_at_call 16;refine (HXI.out _ HG5.out.1).mono ?_;rintro e w6 ⟨g6,A6,c6,rfl,hr6⟩;have n0:=(Below.cell g6 (p:=⟨mb,0,none⟩) zm).trans m0;have n1:=(Below.cell g6 (p:=⟨mb,1,none⟩) zm).trans m1;have n2:=(Below.cell g6 (p:=⟨mb,2,none⟩) zm).trans m2;have zn:=Nat.lt_of_lt_of_le zm g6.size;have H6:=Lib.hid (And.intro (HG5.out.1.trans g6) (And.intro hr6 (HG5.out.2.gr g6)));clear g6 hr6)
     clear m0 m1 m2 zm
     obtain ⟨V6,hV6⟩:∃V6,V6=w6.alloc (.cells #[.int .i64 r1, .int .i64 r2, .slice A6 rl.length c6] 24):=⟨_,rfl⟩
     have gV6:Gr w6 V6:=by rw[hV6];exact Gr.alloc (Gr.refl w6) _
     have y0:V6.cell? ⟨w6.heap.size,0,none⟩=some (.int .i64 r1):=by rw[hV6];go_simp
     have y1:V6.cell? ⟨w6.heap.size,1,none⟩=some (.int .i64 r2):=by rw[hV6];go_simp
     have y2:V6.cell? ⟨w6.heap.size,2,none⟩=some (.slice A6 rl.length c6):=by rw[hV6];go_simp
     have m0:=(Below.cell gV6 (p:=⟨mb,0,none⟩) zn).trans n0
     have m1:=(Below.cell gV6 (p:=⟨mb,1,none⟩) zn).trans n1
     have m2:=(Below.cell gV6 (p:=⟨mb,2,none⟩) zn).trans n2
     have HHD:=Lib.hid (headers_same r1 r2 A5 A6 c5 c6 rl hrl V6 (H6.out.2.2.gr gV6) (H6.out.2.1.gr gV6))
     have HG6:=Lib.hid (H6.out.1.trans gV6)
     rw[←hV6]
     clear hV6 gV6 n0 n1 n2 zn hrl
     go_wp2_with (first|(go_at_call 17;refine HHD.out.mono ?_;rintro e w7 ⟨rfl,g7⟩;have H7:=Lib.hid (HG6.out.trans g7);clear g7)|(go_at_call 18;refine (known7_any _).mono ?_;rintro e w8 ⟨rfl,g8⟩;have H8:=Lib.hid (H7.out.trans g8);clear g8))
     go_ret
     exact ⟨by simp,(HQC.out.trans HGR.out).trans H8.out⟩
section
open Go.ChangeShapes Go.WideShapes Go.ChangeAt Go.RowKit Go.Joins
open Go.Deep (open_slice_pairs)
theorem own_knob:ownKnob Tryz.prog.godebug=none:=by kernel_rfl
theorem laid_out:laidOutB Tryz.prog=true:=by kernel_rfl

end
end Go.Proofs.YtoncapkmaeghfaaGreat
