import Derived.Test.YtoncapkmaeghfaaGreatRunLwUpd
import Derived.Test.YtoncapkmaeghfaaGreatRunRwInf
import Derived.Test.YtoncapkmaeghfaaGreatRunRwRng
import Derived.Test.YtoncapkmaeghfaaGreatRunWiHdr
import Derived.Test.YtoncapkmaeghfaaGreatRunWiFet
import Derived.Test.YtoncapkmaeghfaaGreatRunVfMap
import Derived.Test.YtoncapkmaeghfaaGreatRunRwPas
import Derived.Test.YtoncapkmaeghfaaGreatRunRwMem
import Derived.Deep.Light
import Derived.Test.YtoncapkmaeghfaaGreatRows
import Derived.ProofKit
import Derived.Lib.SmallJoins
import Derived.Deep.SlicePairs
import Derived.Carry
import Derived.ShutString
import Derived.Deep.Slices
set_option linter.all false
set_option maxRecDepth 1000000
set_option maxHeartbeats 12800000
namespace Go.Proofs.YtoncapkmaeghfaaGreat
open Go.RowKit
def actD (a:Actt) (L:List (Int×Int)) (D:Option (List UInt8)):Option (List UInt8):=if a.kd=1 then (updR D a.now L).2 else D
theorem act_any {F P M X:Nat} {R R2:Option Nat} {n:Nat} {room:Int} {D:Option (List UInt8)} (hD:∀l,D=some l→(l.length:Int)≤1073741824) (ag xf:Int) (B:Option Addr) (hn hc:Nat) (a:Actt) (L:List (Int×Int)) (hl:L.length=a.np) (hL:L.length≤1000) (w:World) (hn9:n≤800000) (h:Par w F P M X R R2 n n room D D) (hr:Ri w a.pa L) (hA:0<L.length→∀ad,a.pa=some ad→ad.block≠P∧ad.block≠M∧ad.block≠X∧R≠some ad.block∧R2≠some ad.block) (er:Int)
  (hc1:∀W,Gr w W→Calls Tryz.prog 11 #[.pointer (some ⟨F,0,none⟩), .string nmA, .agg #[.int .i64 ag, .int .i64 xf, .slice B hn hc]] W fun e w'=>e= .returned (.int .i64 er)∧Gr W w')
  (hc2:∀W,Gr w W→Calls Tryz.prog 12 #[.pointer (some ⟨X,0,none⟩), .string nmA, .agg #[.int .i64 ag, .int .i64 xf, .slice B hn hc]] W fun e w'=>e= .returned (.int .i64 er)∧Gr W w') :
  Calls Tryz.prog 13 #[.pointer (some ⟨F,0,none⟩), .pointer (some ⟨X,0,none⟩), .agg #[.int .i64 ag, .int .i64 xf, .slice B hn hc], .agg #[.int .i64 a.kd, .int .i64 a.now, .int .i64 a.frm, .int .i64 a.unt, .int .i64 a.ix, .slice a.pa a.np a.pc]] w (RetAc F P M X R R2 n room (actD a L D) w):=by
 unfold actD
 rw[←hl]
 by_cases k1:a.kd=1
 ·
  rw[if_pos k1,k1]
  cases hu:updOk D a.now with
  | true=>exact act_upd hD ag xf B hn hc a.now a.frm a.unt a.ix a.pa a.pc L hL hu w hn9 h hr hA
  | false=>exact act_upd0 hD ag xf B hn hc a.now a.frm a.unt a.ix a.pa a.pc L hu w hn9 h
 rw[if_neg k1]
 by_cases k2:a.kd=2
 ·
  rw[k2]
  exact act_fet hD ag xf B hn hc a.now a.frm a.unt a.ix a.pa a.pc L w h fet_small
 by_cases k3:a.kd=3
 ·
  rw[k3]
  exact act_rin hD ag xf B hn hc a.now a.frm a.unt a.ix a.pa a.pc L w h rin_small
 by_cases k4:a.kd=4
 ·
  rw[k4]
  exact act_crt ag xf B hn hc a.now a.frm a.unt a.ix a.pa a.pc L w h er hc1 hc2
 exact act_else a.kd k1 k2 k3 k4 ag xf B hn hc a.now a.frm a.unt a.ix a.pa a.pc L w h
theorem actD_len {a:Actt} {L:List (Int×Int)} {D:Option (List UInt8)} {n:Nat} (h:∀l,D=some l→l.length≤n):∀l,actD a L D=some l→l.length≤n:=by
 intro l hl
 unfold actD at hl
 by_cases k1:a.kd=1
 ·
  rw[if_pos k1] at hl
  unfold updR at hl
  cases D with
  | none=>cases hl
  | some d=>
   have hd:=h d rfl
   cases ho:opS d with
   | none=>simp only[ho] at hl;injection hl with hl;rw[←hl];exact hd
   | some p=>
    obtain ⟨ag,xf,m⟩:=p
    simp only[ho] at hl
    by_cases hn:1≤a.now∧a.now≤4294967295
    ·
     rw[if_pos hn] at hl
     injection hl with hl
     obtain ⟨-,hlen,hM⟩:=opS_of ho
     have:=updS_len (ag:=ag) (xf:=xf) (now:=a.now) (MayF.ofH hM) L (0,d) hlen.symm
     rw[hl] at this
     omega
    ·
     rw[if_neg hn] at hl
     injection hl with hl;rw[←hl];exact hd
 ·
  rw[if_neg k1] at hl
  exact h l hl
theorem mayH_arc {ag xf:Int} {l:List (Int×Int)} (h:mayH ag xf l=true):∃(a x:Nat) (m:Arcs),ag=a∧xf=x∧l=ints m:=by
 obtain ⟨m,rfl,hm,h1,h2,h3,h4⟩:=mayH_nat h
 exact ⟨ag.toNat,xf.toNat,m,by omega,by omega,rfl⟩
theorem FsM.nowY {Y Y':Nat→Prop} {w:World} {F P M:Nat} {R:Option Nat} {room:Int} {n:Nat} (h:FsM Y w F P M R room n none) (h2:∀k,Y' k→k<w.heap.size):FsM Y' w F P M R room n none:=
 ⟨h.lf,h.lp,h.lm,h.nfp,h.nfm,h.npm,h.f0,h.f1,h.f2,h.p0,h.p1,h.z0,h.z1,h.rr,h2,h.mp⟩
theorem wcrt_more {Y:Nat→Prop} {F P M:Nat} {R:Option Nat} {n:Nat} {room:Int} {D:Option (List UInt8)} (ag xf:Int) (A:Option Addr) (c:Nat) (l:List (Int×Int)) (hcap:l.length≤c) (hll:l.length≤20) (hD:mayH ag xf l=true→∃d,D=some d) (w:World) (h:FsM Y w F P M R room n D) (hr:Ri w A l) :
  Calls Tryz.prog 11 #[.pointer (some ⟨F,0,none⟩), .string nmA, .agg #[.int .i64 ag, .int .i64 xf, .slice A l.length c]] w fun e w'=>e= .returned (.int .i64 (bif mayH ag xf l then 6 else 1))∧Gr w w':=by
 cases hM:mayH ag xf l with
 | false=>exact wcreate_bad ag xf A c l (by omega) hM w h hr
 | true=>
  obtain ⟨d,rfl⟩:=hD hM
  obtain ⟨a,x,m,rfl,rfl,rfl⟩:=mayH_arc hM
  rw[ints_len] at hcap ⊢
  exact wcreate_has a x A c m hM hcap w h hr
theorem xcrt_more {Y:Nat→Prop} {X:Nat} {R:Option Nat} {n:Nat} {room:Int} {D:Option (List UInt8)} (ag xf:Int) (A:Option Addr) (c:Nat) (l:List (Int×Int)) (hD:mayH ag xf l=true→∃d,D=some d) (w:World) (h:RsM Y w X R room n D) (hr:Ri w A l) :
  Calls Tryz.prog 12 #[.pointer (some ⟨X,0,none⟩), .string nmA, .agg #[.int .i64 ag, .int .i64 xf, .slice A l.length c]] w fun e w'=>e= .returned (.int .i64 (bif mayH ag xf l then 6 else 1))∧Gr w w':=by
 cases hM:mayH ag xf l with
 | false=>exact xcrt_bad ag xf A c l hM w h hr
 | true=>
  obtain ⟨d,rfl⟩:=hD hM
  obtain ⟨a,x,m,rfl,rfl,rfl⟩:=mayH_arc hM
  rw[ints_len]
  exact xcrt_has a x A c m hM w h hr
def infR (D:Option (List UInt8)):(Int×Int)×List (Int×Int)×Int:=
 match D with
 | none=>((0,0),[],5)
 | some d=>match opS d with
  | none=>((0,0),[],2)
  | some (ag,xf,m)=>(((ag:Nat),(xf:Nat)),ints m,0)
theorem infR_len (D:Option (List UInt8)):(infR D).2.1.length≤20:=by
 unfold infR
 cases D with
 | none=>simp
 | some d=>
  cases ho:opS d with
  | none=>simp[ho]
  | some p=>
   obtain ⟨ag,xf,m⟩:=p
   simp only[ho]
   obtain ⟨-, -,hM⟩:=opS_of ho
   have:=(MayF.ofH hM).l8
   rw[ints_len]
   omega
def RetIf (r:(Int×Int)×List (Int×Int)×Int) (w:World) (e:Ending) (w':World):Prop:=
 Gr w w'∧∃A c,e= .returned (.tuple #[.agg #[.int .i64 r.1.1, .int .i64 r.1.2, .slice A r.2.1.length c], .int .i64 r.2.2])∧Ri w' A r.2.1∧r.2.1.length≤c
theorem infR_bad {d:List UInt8} (h:opS d=none):infR (some d)=((0,0),[],2):=by simp only[infR,h]
theorem infR_good {d:List UInt8} {ag xf:Nat} {m:Arcs} (h:opS d=some (ag,xf,m)):infR (some d)=(((ag:Int),(xf:Int)),ints m,0):=by simp only[infR,h]
theorem RetIw.sum {D:List UInt8} {w:World} {e:Ending} {w':World} (h:RetIw D w e w'):RetIf (infR (some D)) w e w':=by
 unfold RetIw at h
 have h2:=h.2
 cases ho:opS D with
 | none=>
  rw[infR_bad ho]
  rw[ho] at h2
  simp only at h2
  exact ⟨h.1,none,0,h2,fun h0=>absurd h0 (by simp),Nat.le_refl _⟩
 | some p=>
  obtain ⟨ag,xf,m⟩:=p
  rw[infR_good ho]
  rw[ho] at h2
  simp only at h2
  obtain ⟨A,c,h3,h5,h4⟩:=h2
  exact ⟨h.1,A,c,by rw[ints_len];exact h3,h4,by rw[ints_len];exact h5⟩
theorem winf_sum {Y:Nat→Prop} {F P M:Nat} {R:Option Nat} {n:Nat} {room:Int} {D:Option (List UInt8)} (hD:∀l,D=some l→(l.length:Int)≤1073741824) (w:World) (h:FsM Y w F P M R room n D):Calls Tryz.prog 15 #[.pointer (some ⟨F,0,none⟩), .string nmA] w (RetIf (infR D) w):=by
 cases D with
 | none=>exact (winfo_none w h).mono fun e w' k=>⟨k.2,none,0,k.1,fun h0=>absurd h0 (by simp[infR]),Nat.le_refl _⟩
 | some d=>exact (winfo_any d (hD d rfl) w h).mono fun e w' k=>k.sum
theorem xinf_sum {Y:Nat→Prop} {X:Nat} {R:Option Nat} {n:Nat} {room:Int} {D:Option (List UInt8)} (hD:∀l,D=some l→(l.length:Int)≤1073741824) (w:World) (h:RsM Y w X R room n D):Calls Tryz.prog 16 #[.pointer (some ⟨X,0,none⟩), .string nmA] w (RetIf (infR D) w):=by
 cases D with
 | none=>exact (xinfo_none w h).mono fun e w' k=>⟨k.2,none,0,k.1,fun h0=>absurd h0 (by simp[infR]),Nat.le_refl _⟩
 | some d=>exact (xinfo_any d (hD d rfl) w h).mono fun e w' k=>(RetIn.weak k).sum
def kM:Arcs:=[(1,60),(60,5)]
theorem kM_may:mayH 2 0 (ints kM)=true:=by kernel_rfl
theorem kM_size:sizeS kM=820:=by kernel_rfl
theorem known_n:(updS 2 0 kM 100 [(99,5)] (0,newS 2 0 kM)).1=1:=by kernel_rfl
theorem known_v:fetV kM (updS 2 0 kM 100 [(99,5)] (0,newS 2 0 kM)).2 100 98 99=[⟨true,5⟩]:=by kernel_rfl
theorem known_s:startS kM (whichS kM (100-frS kM 100 98)) (frS kM 100 98)=99:=by kernel_rfl
section
open Go.RowKit Go.ChangeMaps Go.Maps
theorem vnew_any (room:Int) (h0:0≤room) (h1:room≤1073741824) (w:World):Calls Tryz.prog 9 #[.int .i64 room] w fun e w'=>e= .returned (.tuple #[.pointer (some ⟨w.heap.size+3,0,none⟩), .int .i64 0])∧FsM (fun _=>False) w' (w.heap.size+3) (w.heap.size+1) (w.heap.size+2) none room 0 none∧Gr w w':=by
 obtain ⟨V,hV⟩:∃V,V=(((w.alloc (.map #[] 0)).alloc (.cells #[.slice none 0 0, .map (some w.heap.size)] 77)).alloc (.map #[] 0)).alloc (.cells #[.pointer (some ⟨w.heap.size+1,0,none⟩), .int .i64 room, .map (some (w.heap.size+2))] 79):=⟨_,rfl⟩
 have gV:Gr w V:=by rw[hV];exact Gr.alloc (Gr.alloc (Gr.alloc (Gr.alloc (Gr.refl w) _) _) _) _
 have hz:V.heap.size=w.heap.size+4:=by rw[hV];simp
 have hm:V.heap[w.heap.size+2]?=some (.map #[] 0):=by
  rw[hV,heap_alloc_old _ _ (by simp)]
  have e:w.heap.size+2=((w.alloc (.map #[] 0)).alloc (.cells #[.slice none 0 0, .map (some w.heap.size)] 77)).heap.size:=by simp
  rw[e]
  exact heap_alloc_new _ _
 have HF:Hid (FsM (fun _=>False) V (w.heap.size+3) (w.heap.size+1) (w.heap.size+2) none room 0 none):=Lib.hid ⟨by omega,by omega,by omega,by omega,by omega,by omega,by rw[hV];go_simp,by rw[hV];go_simp,by rw[hV];go_simp,
  ⟨.slice none 0 0,[],by rw[hV];go_simp,rfl,World.ownsRow_nil _ _ _ _⟩,⟨.map (some w.heap.size),by rw[hV];go_simp⟩,by rw[hV];go_simp,by rw[hV];go_simp,(fun _ e=>by cases e),(fun _ e=>e.elim),⟨0,hm⟩⟩
 have HV:=Lib.hid hV
 have HG:=Lib.hid gV
 have hm1:¬room<0:=by omega
 have hm2:¬1073741824<room:=by omega
 clear hV gV hm hz
 have hmm:= @run_makeMap Tryz.prog
 go_enter Tryz.func9,Tryz.ntmps9
 go_wp2
 go_ret2
 refine ⟨rfl,?_,?_⟩
 ·
  have:=HF.out
  rw[HV.out] at this
  exact this
 ·
  have:=HG.out
  rw[HV.out] at this
  exact this
end
theorem nmA_eq:(⟨#[97]⟩:ByteArray)=nmA:=by kernel_rfl
theorem gr_tch {w w1 w2:World} {P M:Nat} {R:Option Nat} (g:Gr w w1) (k:Kp (Tch P M R) w1 w2) (hP:w.heap.size≤P) (hM:w.heap.size≤M) (hR:∀i,R=some i→w.heap.size≤i):Gr w w2:=
 ((Kp.of_gr (Tch P M R) g).trans k (fun _ _ e=>e)).gr (fun i hi e=>by
  rcases e with e|e|e
  ·
   omega
  ·
   omega
  ·
   have:=hR i e;omega)
theorem Ri.lit2 (w:World) (a b c d:Int) (T:TypeId):Ri (w.alloc (.cells #[.int .i64 a, .int .i64 b, .int .i64 c, .int .i64 d] T)) (some ⟨w.heap.size,0,none⟩) [(a,b),(c,d)]:=Ri.of_rows fun _=>by
 refine ⟨by simp,fun k hk=>?_⟩
 match k,hk with
 | 0,_=>exact ⟨by go_simp,by go_simp⟩
 | 1,_=>exact ⟨by go_simp,by go_simp⟩
theorem Ri.lit1 (w:World) (a b:Int) (T:TypeId):Ri (w.alloc (.cells #[.int .i64 a, .int .i64 b] T)) (some ⟨w.heap.size,0,none⟩) [(a,b)]:=Ri.of_rows fun _=>by
 refine ⟨by simp,fun k hk=>?_⟩
 match k,hk with
 | 0,_=>exact ⟨by go_simp,by go_simp⟩
theorem known7_any (w:World):Calls Tryz.prog 18 #[] w fun e w'=>e= .returned (.bool true)∧Gr w w':=by
 have hnm:=nmA_eq
 obtain ⟨KD,hKD⟩:∃KD,KD=(updS 2 0 kM 100 [(99,5)] (0,newS 2 0 kM)).2:=⟨_,rfl⟩
 have hF:=MayF.ofH kM_may
 have hok:HdOk 2 0 kM KD:=by rw[hKD];exact HdOk.upd hF _ _ (newS_ok 2 0 kM)
 have hop:=opS_hdr kM_may hok
 have hop0:=opS_hdr kM_may (newS_ok 2 0 kM)
 have hl0:((newS 2 0 kM).length:Int)≤1073741824:=by rw[(newS_ok 2 0 kM).1,kM_size];omega
 have hlK:(KD.length:Int)≤1073741824:=by rw[hok.1,kM_size];omega
 have hv:=known_v
 have hn:=known_n
 rw[←hKD] at hv
 have HK:=Lib.hid (And.intro hop (And.intro hop0 (And.intro hl0 (And.intro hlK (And.intro hv (And.intro hn hKD))))))
 clear hF hok hop hop0 hl0 hlK hv hn hKD hnm
 go_enter Tryz.func18,Tryz.ntmps18
 go_upto_region 3 with (go_at_call 9;refine (vnew_any 65536 (by omega) (by omega) _).mono ?_;rintro e w1 ⟨rfl,hf1,g1⟩;have H1:=Lib.hid (And.intro hf1 g1);clear hf1 g1)
 obtain ⟨V,hV⟩:∃V,V=(w1.alloc (.cells #[.int .i64 1, .int .i64 60, .int .i64 60, .int .i64 5] 69)).alloc (.cells #[.int .i64 2, .int .i64 0, .slice (some ⟨w1.heap.size,0,none⟩) 2 2] 24):=⟨_,rfl⟩
 have gV:Gr w1 V:=by rw[hV];exact Gr.alloc (Gr.alloc (Gr.refl w1) _) _
 have c0:V.cell? ⟨w1.heap.size+1,0,none⟩=some (.int .i64 2):=by rw[hV];go_simp
 have c1:V.cell? ⟨w1.heap.size+1,1,none⟩=some (.int .i64 0):=by rw[hV];go_simp
 have c2:V.cell? ⟨w1.heap.size+1,2,none⟩=some (.slice (some ⟨w1.heap.size,0,none⟩) 2 2):=by rw[hV];go_simp
 have hri:Ri V (some ⟨w1.heap.size,0,none⟩) (ints kM):=by
  rw[hV,show ints kM=[(1,60),(60,5)] from by kernel_rfl]
  exact (Ri.lit2 w1 1 60 60 5 _).gr (Gr.alloc (Gr.refl _) _)
 rw[←hV]
 obtain ⟨F,hF⟩:∃F,F=w.heap.size+3:=⟨_,rfl⟩
 obtain ⟨P,hP⟩:∃P,P=w.heap.size+1:=⟨_,rfl⟩
 obtain ⟨M,hM⟩:∃M,M=w.heap.size+2:=⟨_,rfl⟩
 rw[←hF,←hP,←hM] at H1
 rw[←hF]
 have HPM:=Lib.hid (show w.heap.size≤P∧w.heap.size≤M by omega)
 have hcr:=wcreate_any 2 0 (some ⟨w1.heap.size,0,none⟩) 2 kM kM_may (by decide) (by omega) (by rw[kM_size];omega) (by omega) V (H1.out.1.gr gV) hri
 rw[←nmA_eq] at hcr
 have HCR:Hid (Calls Tryz.prog 11 #[.pointer (some ⟨F,0,none⟩), .string ⟨#[97]⟩, .agg #[.int .i64 2, .int .i64 0, .slice (some ⟨w1.heap.size,0,none⟩) 2 2]] V fun e w'=>e= .returned (.int .i64 0)∧FsM (fun _=>False) w' F P M none 65536 0 (some (newS 2 0 kM))∧Kp (Tch P M none) V w'):=Lib.hid hcr
 have HGV:=Lib.hid (H1.out.2.trans gV)
 clear hV gV hri hF hP hM hcr
 go_upto_region 4 with (go_at_call 11;refine HCR.out.mono ?_;rintro e w2 ⟨rfl,hf2,hk2⟩;have H2:=Lib.hid (And.intro hf2 (gr_tch HGV.out hk2 HPM.out.1 HPM.out.2 (fun _ e=>by cases e)));clear hf2 hk2)
 clear c0 c1 c2
 obtain ⟨V3,hV3⟩:∃V3,V3=w2.alloc (.cells #[.int .i64 99, .int .i64 5] 54):=⟨_,rfl⟩
 have g3:Gr w2 V3:=by rw[hV3];exact Gr.alloc (Gr.refl w2) _
 have hup:=wupdate_any HK.out.2.2.1 HK.out.2.1 100 (by omega) (by omega) (some ⟨w2.heap.size,0,none⟩) 1 [(99,5)] (by decide) (by omega) V3 (H2.out.1.gr g3) (by rw[hV3];exact Ri.lit1 w2 99 5 _) (fun ad e=>by
  injection e with e
  subst e
  intro e
  have h1:=H2.out.1.lp
  have h2:=H2.out.1.lm
  rcases e with e|e|e
  ·
   simp only at e;omega
  ·
   simp only at e;omega
  ·
   cases e)
 rw[←nmA_eq] at hup
 have e1:(updS ((2:Nat):Int) ((0:Nat):Int) kM 100 [(99,5)] (0,newS 2 0 kM)).1=1:=HK.out.2.2.2.2.2.1
 have e2:(updS ((2:Nat):Int) ((0:Nat):Int) kM 100 [(99,5)] (0,newS 2 0 kM)).2=KD:=HK.out.2.2.2.2.2.2.symm
 rw[e1,e2] at hup
 have HUP:Hid (Calls Tryz.prog 23 #[.pointer (some ⟨F,0,none⟩), .string ⟨#[97]⟩, .int .i64 100, .slice (some ⟨w2.heap.size,0,none⟩) 1 1] V3 fun e w'=>e= .returned (.tuple #[.int .i64 1, .int .i64 0])∧FsM (fun _=>False) w' F P M none 65536 0 (some KD)∧Kp (Tch P M none) V3 w'):=Lib.hid hup
 have HG3:=Lib.hid (H2.out.2.trans g3)
 have HV3:=Lib.hid hV3
 clear hup e1 e2 hV3 g3
 have HFE:Hid (∀W,FsM (fun _=>False) W F P M none 65536 0 (some KD)→Calls Tryz.prog 36 #[.pointer (some ⟨F,0,none⟩), .string ⟨#[97]⟩, .int .i64 100, .int .i64 98, .int .i64 99] W fun e w'=>Gr W w'∧∃A c k,e= .returned (.tuple #[.agg #[.string nmA, .int .i64 99, .int .i64 k, .slice A 1 c, .int .i64 0], .int .i64 0])∧Rv w' A [⟨true,5⟩]):=Lib.hid (fun W hW=>by
  have h:=wfetch_any HK.out.2.2.2.1 HK.out.1 100 98 99 (by omega) (by omega) (by omega) (by omega) (by omega) (by rw[show spanS kM=300 from by kernel_rfl];omega) W hW
  rw[←nmA_eq] at h
  refine h.mono ?_
  rintro e w' ⟨hg,A,c,rfl,hr⟩
  rw[HK.out.2.2.2.2.1] at hr ⊢
  rw[known_s]
  exact ⟨hg,A,c,_,rfl,hr⟩)
 go_wp2_with (first|(go_at_call 23;rw[←HV3.out];refine HUP.out.mono ?_;rintro e w4 ⟨rfl,hf4,hk4⟩;have H4:=Lib.hid (And.intro hf4 (gr_tch HG3.out hk4 HPM.out.1 HPM.out.2 (fun _ e=>by cases e)));clear hf4 hk4)|(go_at_call 36;refine (HFE.out _ H4.out.1).mono ?_;rintro e w5 ⟨g5,A,c,k,rfl,hr⟩;obtain ⟨ad,rfl,hb,hx0,hx1⟩:=hr.at (show 0<1 by decide);have y0:w5.cell? ad=some (.bool true):=hx0;have y1:w5.cell? ⟨ad.block,ad.off+1,none⟩=some (.int .i64 5):=hx1;have HG5:=Lib.hid (H4.out.2.trans g5);clear g5 hr hx0 hx1))
 go_ret
 exact ⟨rfl,HG5.out.alloc _⟩
theorem Kp.over {S:Nat→Prop} {wc W W1:World} (hk:Kp S W W1) (g:Gr wc W) (hs:∀k,S k→wc.heap.size≤k):Gr wc W1:=by
 refine Kp.gr (S:=S) ((Kp.of_gr S g).trans hk (fun _ _ e=>e)) (fun k hk e=>?_)
 have:=hs k e
 omega
theorem Rac.gr {w w':World} {A:Option Addr} {l:List Actt} (h:Rac w A l) (g:Gr w w'):Rac w' A l:=fun h0=>by
 obtain ⟨ad,e,hb,hc⟩:=h h0
 have hbk:∀z,(ad.add z).block<w.heap.size:=fun z=>by rw[adB];exact hb
 refine ⟨ad,e,Nat.lt_of_lt_of_le hb g.size,fun k hk=>?_⟩
 obtain ⟨t0,t1,t2,t3,t4,t5⟩:=hc k hk
 exact ⟨(Below.cell g (p:=ad.add (k*6)) (hbk _)).trans t0,(Below.cell g (p:=⟨(ad.add (k*6)).block,(ad.add (k*6)).off+1,none⟩) (hbk _)).trans t1,(Below.cell g (p:=⟨(ad.add (k*6)).block,(ad.add (k*6)).off+2,none⟩) (hbk _)).trans t2,(Below.cell g (p:=⟨(ad.add (k*6)).block,(ad.add (k*6)).off+3,none⟩) (hbk _)).trans t3,(Below.cell g (p:=⟨(ad.add (k*6)).block,(ad.add (k*6)).off+4,none⟩) (hbk _)).trans t4,(Below.cell g (p:=⟨(ad.add (k*6)).block,(ad.add (k*6)).off+5,none⟩) (hbk _)).trans t5⟩
section
open Go.RowKit Go.ChangeMaps Go.Maps
theorem info_u8V:(Tryz.prog.info? 5).map (fun i=>(i.zero,i.size,i.bytes))=some (some (.int .u8 0),1,1):=by kernel_rfl
theorem own_capV {w:World} {base:Nat} {e:TypeId} {size n c:Nat} {A:Option Addr} {xs:List Value} (h:w.ownsRow base e size (.slice A n c) n xs):n≤c:=by
 obtain ⟨h1,⟨hv,h0⟩|⟨g',cap,cur,hv,hb,hh,h2,h3,h4⟩⟩:=h
 ·
  injection hv with _ h2 h3
  omega
 ·
  injection hv with _ _ hv3
  subst hv3
  exact h2
theorem join_any1 (b c:Nat) (l:List UInt8) (A:Option Addr) (c0:Nat) (hl:(l.length:Int)≤1073741824) (w:World) (hcell:w.cell? ⟨b,0,none⟩=some (.slice A l.length c0)) (hr:Rb w A l):Calls Tryz.prog 50 #[.slice (some ⟨b,0,none⟩) 1 c, .slice none 0 0] w fun e w'=>∃g d,e= .returned (.slice g l.length d)∧l.length≤d∧Rb w' g l∧Gr w w':=by
 obtain ⟨i0,hi,hz0,hz1,hz2⟩:=info_parts info_u8V
 have HR:=Lib.hid hr
 clear hr
 go_enter Tryz.func50,Tryz.ntmps50
 go_wp2_with (at_builtin;refine wpList_append_rd rfl (.const (.slice none 0 0)) (.tmp 21) 49 rfl w.heap.size 5 i0 _ 1 1 Tryz.underlying49 hi hz0 hz1 hz2 rfl (by decide) _ 0 [] rfl (World.ownsRow_nil _ _ _ _) A l.length c0 (bys l) rfl HR.out (bys_one _) (by unfold maxLen;omega) (by omega) (Nat.le_refl _) ?_;intro v' w2 hown2 hgr2 hat2;rw[Nat.zero_add,List.nil_append] at hown2;obtain ⟨A2,c2,hv2⟩:=own_form hown2;subst hv2;have HO:=Lib.hid (And.intro hown2 hgr2);clear hown2 hgr2 hat2)
 go_ret
 exact ⟨A2,c2,rfl,own_capV HO.out.1,Rb.own HO.out.1,Gr.grown (Gr.refl _) HO.out.2 (fun k hk=>by cases hk)⟩
theorem fcreate_one {Y:Nat→Prop} {F P M:Nat} {R:Option Nat} {room:Int} {n:Nat} (pb c:Nat) (B:List UInt8) (A:Option Addr) (c0:Nat) (hL:(B.length:Int)≤room) (hroom:room≤1073741824) (hn:n≤1000000) (w:World) (h:FsM Y w F P M R room n none) (hcell:w.cell? ⟨pb,0,none⟩=some (.slice A B.length c0)) (hr:Rb w A B) :
  Calls Tryz.prog 19 #[.pointer (some ⟨F,0,none⟩), .string nmA, .slice (some ⟨pb,0,none⟩) 1 c] w fun e w'=>e= .returned (.int .i64 0)∧∃R',FsM Y w' F P M R' room (n+1) (some B)∧Kp (Tch P M R) w w'∧∀i,R'=some i→R=some i∨w.heap.size≤i:=by
 have hpb:=World.block_lt_of_cell? w ⟨pb,0,none⟩ hcell
 have hs:([B].map List.length).sum=B.length:=by simp
 have hcg:∀W,Gr w W→W.cell? ⟨pb,0,none⟩=some (.slice A B.length c0):=fun W g=>(Below.cell g (p:=⟨pb,0,none⟩) hpb).trans hcell
 refine fcreate_new pb 1 c B hL hroom hn w h (fun W gW=>?_) (fun W gW=>join_any1 pb c B A c0 (by omega) W (hcg W gW) (hr.gr gW))
 refine (total_any pb 0 1 c [B] rfl (by omega) (by rw[hs];omega) W (fun k hk=>?_)).mono ?_
 ·
  have e0:k=0:=by simp at hk;omega
  subst e0
  exact ⟨A,c0,hcg W gW⟩
 ·
  rintro e w' ⟨rfl,rfl⟩
  exact ⟨by rw[hs],Gr.refl _⟩
end
theorem FsM.kpMore {Y Y':Nat→Prop} {w w':World} {F P M:Nat} {R:Option Nat} {room:Int} {n:Nat} {D:Option (List UInt8)} {S:Nat→Prop} (h:FsM Y w F P M R room n D) (k:Kp S w w') (hF:¬S F) (hP:¬S P) (hM:¬S M) (hR:∀i,R=some i→¬S i) (hD:∀g,g<w.heap.size→S g→g=F∨g=P∨g=M∨R=some g∨w.heap.size≤g∨D=none∨Y g) (h1:∀q,Y' q→Y q∨w.heap.size≤q) (h2:∀q,Y' q→q<w'.heap.size):FsM Y' w' F P M R room n D:=by
 have h':=h.kp k hF hP hM hR hD
 refine ⟨h'.lf,h'.lp,h'.lm,h'.nfp,h'.nfm,h'.npm,h'.f0,h'.f1,h'.f2,h'.p0,h'.p1,h'.z0,h'.z1,h'.rr,h2,?_⟩
 cases D with
 | none=>exact h'.mp
 | some l=>
  obtain ⟨clk,born,A,c,hb,hc,hr,hx⟩:=h.mp
  have h3:=(hx.imp (Q':=fun g=>(g≠P∧g≠M∧R≠some g∧¬Y' g)∧¬S g) (fun g hg hq=>⟨⟨hq.1,hq.2.1,hq.2.2.1,fun e=>by
   rcases h1 g e with e|e
   ·
    exact hq.2.2.2 e
   ·
    omega⟩,fun hS=>by
   rcases hD g hg hS with e|e|e|e|e|e|e
   ·
    exact hF (e▸hS)
   ·
    exact hq.1 e
   ·
    exact hq.2.1 e
   ·
    exact hq.2.2.1 e
   ·
    omega
   ·
    cases e
   ·
    exact hq.2.2.2 e⟩)).kp k (fun g _ hq e=>hq.2 e) hr
  exact ⟨clk,born,A,c,(k.block M h.lm hM).trans hb,hc,h3.1,h3.2.imp (fun _ _ q=>q.1)⟩
theorem RsM.kpMore {Y Y':Nat→Prop} {w w':World} {X:Nat} {R:Option Nat} {room:Int} {n:Nat} {D:Option (List UInt8)} {S:Nat→Prop} (h:RsM Y w X R room n D) (k:Kp S w w') (hS:∀g,g<w.heap.size→S g→Y g) (h1:∀q,Y' q→Y q∨w.heap.size≤q) (h2:∀q,Y' q→q<w'.heap.size):RsM Y' w' X R room n D:=by
 have h':=h.kp k hS
 obtain ⟨v,v1,v2⟩:=h.x1
 refine ⟨h'.lX,h'.x0,⟨v,(k.cell (a:=⟨X,1,none⟩) h.lX (fun e=>h.nY (hS X h.lX e))).trans v1,?_⟩,h'.x2,h'.x3,h'.z1,h'.z2,h'.z3,h'.rX,fun e=>?_,fun i hi e=>?_,h2⟩
 ·
  exact ((v2.imp (Q':=fun g=>(g≠X∧R≠some g∧¬Y' g)∧¬S g) (fun g hg hq=>⟨⟨hq.1,hq.2.1,fun e=>by
   rcases h1 g e with e|e
   ·
    exact hq.2.2 e
   ·
    omega⟩,fun e=>hq.2.2 (hS g hg e)⟩)).kp k (fun g _ hq e=>hq.2 e)).imp (fun _ _ q=>q.1)
 ·
  rcases h1 X e with e|e
  ·
   exact h.nY e
  ·
   have:=h.lX;omega
 ·
  rcases h1 i e with e|e
  ·
   exact h.rY i hi e
  ·
   have:=h.lR i hi;omega
theorem law_WhisperFiles (B:Option Addr) (cb:Nat) (b:List UInt8) (kd now frm unt ix:Int) (pa:Option Addr) (np pc:Nat) (w:World) (hr:Rb w B b) (hA:∃L:List (Int×Int),L.length=np∧Ri w pa L) :
  Calls Tryz.prog 4 #[.slice B b.length cb, .agg #[.int .i64 kd, .int .i64 now, .int .i64 frm, .int .i64 unt, .int .i64 ix, .slice pa np pc]] w fun e w'=>e= .returned (.bool true)∧Gr w w':=by
 obtain ⟨V,hV⟩:∃V,V=w.alloc (.cells #[.int .i64 kd, .int .i64 now, .int .i64 frm, .int .i64 unt, .int .i64 ix, .slice pa np pc] 40):=⟨_,rfl⟩
 have gV:Gr w V:=by rw[hV];exact Gr.alloc (Gr.refl w) _
 have hz0:w.heap.size<V.heap.size:=by rw[hV];simp
 have c0:V.cell? ⟨w.heap.size,0,none⟩=some (.int .i64 kd):=by rw[hV];go_simp
 have c1:V.cell? ⟨w.heap.size,1,none⟩=some (.int .i64 now):=by rw[hV];go_simp
 have c2:V.cell? ⟨w.heap.size,2,none⟩=some (.int .i64 frm):=by rw[hV];go_simp
 have c3:V.cell? ⟨w.heap.size,3,none⟩=some (.int .i64 unt):=by rw[hV];go_simp
 have c4:V.cell? ⟨w.heap.size,4,none⟩=some (.int .i64 ix):=by rw[hV];go_simp
 have c5:V.cell? ⟨w.heap.size,5,none⟩=some (.slice pa np pc):=by rw[hV];go_simp
 have HV:=Lib.hid hV
 have HGV:=Lib.hid gV
 clear hV gV
 have HRB:=Lib.hid (hr.gr HGV.out)
 obtain ⟨L,hL⟩:=hA
 have HL:=Lib.hid hL
 clear hr hL
 by_cases h3:(3000:Int)<(b.length:Int)
 ·
  have h3d:decide ((3000:Int)<(b.length:Int))=true:=decide_eq_true h3
  go_enter Tryz.func4,Tryz.ntmps4
  go_upto_region 1 with (fail)
  rw[←HV.out]
  clear HV
  go_wp2
  go_ret
  exact ⟨rfl,HGV.out⟩
 ·
  have h3d:decide ((3000:Int)<(b.length:Int))=false:=decide_eq_false h3
  by_cases h10:(10:Int)<(np:Int)
  ·
   have h10d:decide ((10:Int)<(np:Int))=true:=decide_eq_true h10
   go_enter Tryz.func4,Tryz.ntmps4
   go_upto_region 1 with (fail)
   rw[←HV.out]
   clear HV
   go_wp2
   go_ret
   exact ⟨rfl,HGV.out⟩
  ·
   have h10d:decide ((10:Int)<(np:Int))=false:=decide_eq_false h10
   go_enter Tryz.func4,Tryz.ntmps4
   go_upto_region 1 with (fail)
   rw[←HV.out]
   clear HV
   go_upto_region 5 with (first|(go_at_call 9;refine (vnew_any 65536 (by omega) (by omega) _).mono ?_;rintro e w3 ⟨rfl,hf3,g3⟩;have H3:=Lib.hid (And.intro hf3 g3);clear hf3 g3)|(go_at_call 10;refine (xnew_any 65536 (by omega) (by omega) _).mono ?_;rintro e w4 ⟨rfl,h4⟩;have H4:=Lib.hid h4;clear h4))
   obtain ⟨F,hF⟩:∃F,F=V.heap.size+3:=⟨_,rfl⟩
   obtain ⟨P,hP⟩:∃P,P=V.heap.size+1:=⟨_,rfl⟩
   obtain ⟨M,hM⟩:∃M,M=V.heap.size+2:=⟨_,rfl⟩
   obtain ⟨X,hX⟩:∃X,X=w3.heap.size:=⟨_,rfl⟩
   rw[←hF,←hP,←hM] at H3
   have g34:Gr w3 w4:=by rw[H4.out];exact Gr.alloc (Gr.refl w3) _
   have hfs4:FsM (fun k=>k=X) w4 F P M none 65536 0 none:=(H3.out.1.gr g34).nowY (fun k e=>by rw[e,hX,H4.out];simp)
   have hrs4:RsM (fun k=>k=F∨k=P∨k=M) w4 X none 65536 0 none:=by
    rw[H4.out,hX]
    exact RsM.new _ 65536 w3 (fun k e=>by
     rcases e with e|e|e
     ·
      rw[e];exact H3.out.1.lf
     ·
      rw[e];exact H3.out.1.lp
     ·
      rw[e];exact H3.out.1.lm)
   have HPM:=Lib.hid (show V.heap.size≤P∧V.heap.size≤M∧V.heap.size≤X from ⟨by omega,by omega,by rw[hX];exact H3.out.2.size⟩)
   have hG4:Gr V w4:=H3.out.2.trans g34
   rw[←hF,←hX]
   clear hF hP hM hX g34 H3 H4
   obtain ⟨V4,hV4⟩:∃V4,V4=w4.alloc (.cells #[.slice B b.length cb] 49):=⟨_,rfl⟩
   have g4:Gr w4 V4:=by rw[hV4];exact Gr.alloc (Gr.refl w4) _
   have hfc:=fcreate_one (Y:=fun k=>k=X) (F:=F) (P:=P) (M:=M) (R:=none) (room:=65536) (n:=0) w4.heap.size 1 b B cb (by omega) (by omega) (by omega) V4 (hfs4.gr g4) (by rw[hV4];go_simp) ((HRB.out.gr hG4).gr g4)
   have HFC:=Lib.hid hfc
   have HRS:=Lib.hid (hrs4.gr g4)
   have HG4:=Lib.hid (hG4.trans g4)
   have HV4:=Lib.hid hV4
   have hg4:V.heap.size≤V4.heap.size:=(hG4.trans g4).size
   clear hfc hrs4 hfs4 hG4 g4 hV4
   go_upto_region 6 with (go_at_call 19;rw[←nmA_eq] at HFC;rw[←HV4.out];refine HFC.out.mono ?_;rintro e w5 ⟨rfl,R,hf5,hk5,hR5⟩;have H5:=Lib.hid (And.intro hf5 (And.intro hk5 hR5));clear hf5 hk5 hR5)
   have hR5:∀i,R=some i→V4.heap.size≤i:=fun i e=>(H5.out.2.2 i e).elim (fun e=>by cases e) (fun e=>e)
   have lR5:∀i,R=some i→i<w5.heap.size:=fun i e=>by
    obtain ⟨v,xs,v1,v2,v3⟩:=H5.out.1.p0
    exact (v3.lt i (by rw[v2];exact e)).2
   have g5:Gr V w5:=H5.out.2.1.over HG4.out (fun k e=>by
    rcases e with e|e|e
    ·
     rw[e];exact HPM.out.1
    ·
     rw[e];exact HPM.out.2.1
    ·
     cases e)
   have hrs5:RsM (fun k=>k=F∨k=P∨k=M∨R=some k) w5 X none 65536 0 none:=HRS.out.kpMore H5.out.2.1 (fun k _ e=>by
    rcases e with e|e|e
    ·
     exact .inr (.inl e)
    ·
     exact .inr (.inr e)
    ·
     cases e) (fun k e=>by
    rcases e with e|e|e|e
    ·
     exact .inl (.inl e)
    ·
     exact .inl (.inr (.inl e))
    ·
     exact .inl (.inr (.inr e))
    ·
     exact .inr (hR5 k e)) (fun k e=>by
    rcases e with e|e|e|e
    ·
     rw[e];exact H5.out.1.lf
    ·
     rw[e];exact H5.out.1.lp
    ·
     rw[e];exact H5.out.1.lm
    ·
     exact lR5 k e)
   obtain ⟨V5,hV5⟩:∃V5,V5=w5.alloc (.cells #[.slice B b.length cb] 49):=⟨_,rfl⟩
   have g55:Gr w5 V5:=by rw[hV5];exact Gr.alloc (Gr.refl w5) _
   have hxc:=xcreate_row (Y:=fun k=>k=F∨k=P∨k=M∨R=some k) (X:=X) (R:=none) (room:=65536) (n:=0) w5.heap.size 0 1 1 [b] rfl (by omega) (by simp;omega) (by simp;omega) (by omega) (by omega) V5 (hrs5.gr g55) (fun k hk=>by
    have e0:k=0:=by simp at hk;omega
    subst e0
    exact ⟨B,cb,by rw[hV5];go_simp,(HRB.out.gr g5).gr g55⟩) (fun _=>by rw[hV5];simp)
   rw[show [b].flatten=b by simp] at hxc
   have HXC:=Lib.hid hxc
   have HR5:=Lib.hid (And.intro hR5 lR5)
   have HG5:=Lib.hid (And.intro (g5.trans g55) g55)
   have HV5:=Lib.hid hV5
   have hnX:R≠some X:=fun e=>hrs5.nY (.inr (.inr (.inr e)))
   have hnXX:X≠F∧X≠P∧X≠M:=⟨fun e=>hrs5.nY (.inl e),fun e=>hrs5.nY (.inr (.inl e)),fun e=>hrs5.nY (.inr (.inr (.inl e)))⟩
   have HNX:=Lib.hid (And.intro hnX hnXX)
   clear hxc hR5 lR5 g5 hrs5 g55 hV5 hnX hnXX HFC HRS HV4 HG4
   go_upto_region 7 with (go_at_call 20;rw[←nmA_eq] at HXC;rw[←HV5.out];refine HXC.out.mono ?_;rintro e w6 ⟨rfl,R2,hr6,hk6,hR6,vv,xs0,uu,hv6,hx6,ho6⟩;have H6:=Lib.hid (And.intro hr6 (And.intro hk6 hR6));have HO6:=Lib.hid (And.intro hv6 (And.intro hx6 ho6));clear hr6 hk6 hR6 hv6 hx6 ho6)
   have hR6:∀i,R2=some i→V5.heap.size≤i:=fun i e=>(H6.out.2.2 i e).elim (fun e=>by cases e) (fun e=>e)
   have hpr:Par w6 F P M X R R2 1 1 65536 (some b) (some b):=by
    refine ⟨(H5.out.1.gr HG5.out.2).kpMore H6.out.2.1 (fun e=>?_) (fun e=>?_) (fun e=>?_) (fun i e e2=>?_) (fun g _ e=>?_) (fun k e=>?_) (fun k e=>?_),H6.out.1,fun k e=>?_⟩
    ·
     rcases e with e|e
     ·
      exact HNX.out.2.1 e.symm
     ·
      cases e
    ·
     rcases e with e|e
     ·
      exact HNX.out.2.2.1 e.symm
     ·
      cases e
    ·
     rcases e with e|e
     ·
      exact HNX.out.2.2.2 e.symm
     ·
      cases e
    ·
     rcases e2 with e2|e2
     ·
      exact HNX.out.1 (e2▸e)
     ·
      cases e2
    ·
     rcases e with e|e
     ·
      exact .inr (.inr (.inr (.inr (.inr (.inr e)))))
     ·
      cases e
    ·
     rcases e with e|e
     ·
      exact .inl e
     ·
      exact .inr (hR6 k e)
    ·
     rcases e with e|e
     ·
      rw[e];exact H6.out.1.lX
     ·
      exact H6.out.1.lR k e
    ·
     obtain ⟨hv6,hx6,ho6⟩:=HO6.out
     have e0:xs0=[]:=List.eq_nil_of_length_eq_zero (by rw[hx6])
     rw[e0,List.nil_append] at ho6
     obtain ⟨A6,c6,e6⟩:=own_form ho6
     subst e6
     obtain ⟨ad,ea,hb6,hc6⟩:=(Rd.own ho6).2 (by omega)
     subst ea
     have h0:=hc6 0 _ rfl
     obtain ⟨h1,⟨hv, -⟩|⟨g',cap,cur,hv, -⟩⟩:=ho6
     ·
      cases hv
     ·
      injection hv with hv _ _
      injection hv with hv
      subst hv
      rw[e] at hv6
      simp only[Value.ownBlock] at hv6
      injection hv6 with hv6
      subst hv6
      exact ⟨1,h0⟩
   have hG6:Gr V w6:=H6.out.2.1.over HG5.out.1 (fun k e=>by
    rcases e with e|e
    ·
     rw[e];exact HPM.out.2.2
    ·
     cases e)
   have HPR:=Lib.hid hpr
   have HG6:=Lib.hid hG6
   have HRZ:=Lib.hid (show (∀i,R=some i→V.heap.size≤i)∧∀i,R2=some i→V.heap.size≤i from ⟨fun i e=>Nat.le_trans hg4 (HR5.out.1 i e),fun i e=>Nat.le_trans HG5.out.1.size (hR6 i e)⟩)
   clear hg4 hR6 hpr hG6 H5 H6 HO6 HXC HV5 HNX HG5 HR5
   have HIN:Hid (∀W,Gr w6 W→Calls Tryz.prog 15 #[.pointer (some ⟨F,0,none⟩), .string ⟨#[97]⟩] W (RetIf (infR (some b)) W)):=Lib.hid (fun W g=>winf_sum (fun d e=>by injection e with e;rw[←e];omega) W (HPR.out.gr g).fs)
   have HXI:Hid (∀W,Gr w6 W→Calls Tryz.prog 16 #[.pointer (some ⟨X,0,none⟩), .string ⟨#[97]⟩] W (RetIf (infR (some b)) W)):=Lib.hid (fun W g=>xinf_sum (fun d e=>by injection e with e;rw[←e];omega) W (HPR.out.gr g).rs)
   have hrl:=infR_len (some b)
   obtain ⟨⟨⟨r1,r2⟩,rl,re⟩,hrr⟩:∃r,r=infR (some b):=⟨_,rfl⟩
   rw[←hrr] at HIN HXI hrl
   clear hrr
   simp only[RetIf] at HIN HXI hrl
   have hree:(re==re)=true:=by simp
   go_upto_region 8 with (go_at_call 15;refine (HIN.out _ (Gr.refl _)).mono ?_;rintro e w7 ⟨g7,A7,c7,rfl,hr7,hc7⟩;have H7:=Lib.hid (And.intro g7 (And.intro hr7 hc7));clear g7 hr7 hc7)
   obtain ⟨V7,hV7⟩:∃V7,V7=w7.alloc (.cells #[.int .i64 r1, .int .i64 r2, .slice A7 rl.length c7] 24):=⟨_,rfl⟩
   have gV7:Gr w7 V7:=by rw[hV7];exact Gr.alloc (Gr.refl w7) _
   have m0:V7.cell? ⟨w7.heap.size,0,none⟩=some (.int .i64 r1):=by rw[hV7];go_simp
   have m1:V7.cell? ⟨w7.heap.size,1,none⟩=some (.int .i64 r2):=by rw[hV7];go_simp
   have m2:V7.cell? ⟨w7.heap.size,2,none⟩=some (.slice A7 rl.length c7):=by rw[hV7];go_simp
   have zm:w7.heap.size<V7.heap.size:=by rw[hV7];simp
   have HG7:=Lib.hid (And.intro (H7.out.1.trans gV7) (And.intro (H7.out.2.1.gr gV7) H7.out.2.2))
   obtain ⟨mb,hmb⟩:∃mb,mb=w7.heap.size:=⟨_,rfl⟩
   have HV7:=Lib.hid hV7
   rw[←hmb] at m0 m1 m2 zm ⊢
   rw[←HV7.out]
   clear hV7 gV7 hmb HV7 H7
   go_upto_region 9 with (go_at_call 16;refine (HXI.out _ HG7.out.1).mono ?_;rintro e w8 ⟨g8,A8,c8,rfl,hr8, -⟩;have n0:=(Below.cell g8 (p:=⟨mb,0,none⟩) zm).trans m0;have n1:=(Below.cell g8 (p:=⟨mb,1,none⟩) zm).trans m1;have n2:=(Below.cell g8 (p:=⟨mb,2,none⟩) zm).trans m2;have zn:=Nat.lt_of_lt_of_le zm g8.size;have H8:=Lib.hid (And.intro (HG7.out.1.trans g8) (And.intro hr8 (HG7.out.2.1.gr g8)));clear g8 hr8)
   clear m0 m1 m2 zm
   obtain ⟨V8,hV8⟩:∃V8,V8=w8.alloc (.cells #[.int .i64 r1, .int .i64 r2, .slice A8 rl.length c8] 24):=⟨_,rfl⟩
   have gV8:Gr w8 V8:=by rw[hV8];exact Gr.alloc (Gr.refl w8) _
   have y0:V8.cell? ⟨w8.heap.size,0,none⟩=some (.int .i64 r1):=by rw[hV8];go_simp
   have y1:V8.cell? ⟨w8.heap.size,1,none⟩=some (.int .i64 r2):=by rw[hV8];go_simp
   have y2:V8.cell? ⟨w8.heap.size,2,none⟩=some (.slice A8 rl.length c8):=by rw[hV8];go_simp
   have m0:=(Below.cell gV8 (p:=⟨mb,0,none⟩) zn).trans n0
   have m1:=(Below.cell gV8 (p:=⟨mb,1,none⟩) zn).trans n1
   have m2:=(Below.cell gV8 (p:=⟨mb,2,none⟩) zn).trans n2
   have zm:=Nat.lt_of_lt_of_le zn gV8.size
   have HHD:=Lib.hid (headers_same r1 r2 A7 A8 c7 c8 rl (by omega) V8 (H8.out.2.2.gr gV8) (H8.out.2.1.gr gV8))
   have HG8:=Lib.hid (And.intro (H8.out.1.trans gV8) (H8.out.2.2.gr gV8))
   rw[←hV8]
   have HLL:=Lib.hid hrl
   have HC7:=Lib.hid HG7.out.2.2
   clear hV8 gV8 n0 n1 n2 zn hrl HG7 H8
   have hgV8:Gr V V8:=HG6.out.trans HG8.out.1
   have u0:=(Below.cell hgV8 (p:=⟨w.heap.size,0,none⟩) hz0).trans c0
   have u1:=(Below.cell hgV8 (p:=⟨w.heap.size,1,none⟩) hz0).trans c1
   have u2:=(Below.cell hgV8 (p:=⟨w.heap.size,2,none⟩) hz0).trans c2
   have u3:=(Below.cell hgV8 (p:=⟨w.heap.size,3,none⟩) hz0).trans c3
   have u4:=(Below.cell hgV8 (p:=⟨w.heap.size,4,none⟩) hz0).trans c4
   have u5:=(Below.cell hgV8 (p:=⟨w.heap.size,5,none⟩) hz0).trans c5
   have zu:=Nat.lt_of_lt_of_le hz0 hgV8.size
   clear c0 c1 c2 c3 c4 c5 hz0 hgV8
   have HAC:Hid (∀W,Gr V8 W→Calls Tryz.prog 13 #[.pointer (some ⟨F,0,none⟩), .pointer (some ⟨X,0,none⟩), .agg #[.int .i64 r1, .int .i64 r2, .slice A7 rl.length c7], .agg #[.int .i64 kd, .int .i64 now, .int .i64 frm, .int .i64 unt, .int .i64 ix, .slice pa np pc]] W (RetAc F P M X R R2 1 65536 (actD ⟨kd,now,frm,unt,ix,pa,np,pc⟩ L (some b)) W)):=Lib.hid (fun W hW=>by
    have gW:Gr w6 W:=HG8.out.1.trans hW
    have pW:=HPR.out.gr gW
    refine act_any (fun d e=>by injection e with e;rw[←e];omega) r1 r2 A7 rl.length c7 ⟨kd,now,frm,unt,ix,pa,np,pc⟩ L HL.out.1 (by have:=HL.out.1;omega) W (by omega) pW ((HL.out.2.gr HGV.out).gr (HG6.out.trans gW)) (fun h0 ad e=>?_) (bif mayH r1 r2 rl then 6 else 1) (fun W2 g2=>wcrt_more r1 r2 A7 c7 rl HC7.out HLL.out (fun _=>⟨b,rfl⟩) W2 (pW.gr g2).fs (HG8.out.2.gr (hW.trans g2))) (fun W2 g2=>xcrt_more r1 r2 A7 c7 rl (fun _=>⟨b,rfl⟩) W2 (pW.gr g2).rs (HG8.out.2.gr (hW.trans g2)))
    obtain ⟨ad2,e2,hb2, -⟩:=HL.out.2 h0
    simp only at e
    rw[e] at e2
    injection e2 with e2
    subst e2
    have h1:=HPM.out
    have h2:=HGV.out.size
    refine ⟨by omega,by omega,by omega,fun e=>?_,fun e=>?_⟩
    ·
     have:=HRZ.out.1 _ e;omega
    ·
     have:=HRZ.out.2 _ e;omega)
   obtain ⟨D2,hD2⟩:∃D2,D2=actD ⟨kd,now,frm,unt,ix,pa,np,pc⟩ L (some b):=⟨_,rfl⟩
   rw[←hD2] at HAC
   have HD2:Hid (∀d,D2=some d→d.length≤3000):=Lib.hid (by rw[hD2];exact actD_len (fun d e=>by injection e with e;rw[←e];omega))
   have HBY:Hid (∀W R' R2' n',Par W F P M X R' R2' n' n' 65536 D2 D2→Calls Tryz.prog 14 #[.pointer (some ⟨F,0,none⟩), .pointer (some ⟨X,0,none⟩)] W fun e w'=>e= .returned (.bool true)∧Gr W w'):=Lib.hid (fun W R' R2' n' hW=>by
    have hl:=HD2.out
    cases D2 with
    | none=>exact bytes_none W hW.fs hW.rs
    | some d=>exact bytes_some (by have:=hl d rfl;omega) W hW.fs hW.rs)
   clear hD2
   go_wp2_with (first|(go_at_call 17;refine HHD.out.mono ?_;rintro e w9 ⟨rfl,g9⟩;have s0:=(Below.cell g9 (p:=⟨mb,0,none⟩) zm).trans m0;have s1:=(Below.cell g9 (p:=⟨mb,1,none⟩) zm).trans m1;have s2:=(Below.cell g9 (p:=⟨mb,2,none⟩) zm).trans m2;have t0:=(Below.cell g9 (p:=⟨w.heap.size,0,none⟩) zu).trans u0;have t1:=(Below.cell g9 (p:=⟨w.heap.size,1,none⟩) zu).trans u1;have t2:=(Below.cell g9 (p:=⟨w.heap.size,2,none⟩) zu).trans u2;have t3:=(Below.cell g9 (p:=⟨w.heap.size,3,none⟩) zu).trans u3;have t4:=(Below.cell g9 (p:=⟨w.heap.size,4,none⟩) zu).trans u4;have t5:=(Below.cell g9 (p:=⟨w.heap.size,5,none⟩) zu).trans u5;have H9:=Lib.hid g9;clear g9)|(go_at_call 13;refine (HAC.out _ H9.out).mono ?_;rintro e w10 ⟨rfl,⟨syn,hp10⟩,hk10⟩;have H10:=Lib.hid (And.intro hp10 (hk10.over ((HG6.out.trans HG8.out.1).trans H9.out) (fun k e=>by rcases e with e|e|e|e|e;rw[e];exact HPM.out.1;rw[e];exact HPM.out.2.1;rw[e];exact HPM.out.2.2;exact HRZ.out.1 k e;exact HRZ.out.2 k e)));clear hp10 hk10)|(go_at_call 14;refine (HBY.out _ _ _ _ H10.out.1).mono ?_;rintro e w11 ⟨rfl,g11⟩;have H11:=Lib.hid (H10.out.2.trans g11);clear g11)|(go_at_call 18;refine (known7_any _).mono ?_;rintro e w12 ⟨rfl,g12⟩;have H12:=Lib.hid (H11.out.trans g12);clear g12))
   go_ret
   exact ⟨by simp,HGV.out.trans H12.out⟩
section
open Go.ChangeShapes Go.WideShapes Go.ChangeAt Go.RowKit Go.Joins
open Go.Deep (open_slice_pairs)
theorem own_knob:ownKnob Tryz.prog.godebug=none:=by kernel_rfl
theorem laid_out:laidOutB Tryz.prog=true:=by kernel_rfl

end
section
open Go.ChangeShapes Go.WideShapes Go.ChangeAt Go.RowKit Go.Joins
def Rg (w:World) (A:Option Addr) (l:List (Int×Int)):Prop:=
 0<l.length→∃ad:Addr,A=some ad∧ad.block<w.heap.size∧∀k (h:k<l.length),w.cell? (ad.add (k*2))=some (.int .i64 l[k].1)∧w.cell? ⟨(ad.add (k*2)).block,(ad.add (k*2)).off+1,none⟩=some (.int .i64 l[k].2)
section
variable {H:Type} {enc:TypeId×Value→H} {w:World} {held:Bool}
theorem choose_pr {m:Nat} {P:Nat→Int×Int→Prop} (h:∀i,i<m→∃a,P i a):∃l:List (Int×Int),l.length=m∧∀i (hi:i<l.length),P i l[i]:=by
 induction m with
 | zero=>exact ⟨[],rfl,fun i hi=>absurd hi (by simp)⟩
 | succ m ih=>
  obtain ⟨l,hl,hp⟩:=ih (fun i hi=>h i (by omega))
  obtain ⟨a,ha⟩:=h m (by omega)
  refine ⟨l++[a],by simp[hl],fun i hi=>?_⟩
  by_cases hlt:i<l.length
  ·
   rw[List.getElem_append_left hlt];exact hp i hlt
  ·
   obtain rfl:i=m:=by simp at hi;omega
   simpa [hl] using ha
theorem pairs_cs {n:Nat} {t e:TypeId} {f0 f1:Field} {cs:List Value} {x:DataW H×List MemPlace} (ht:Tryz.prog.underlying t=some (.slice e)) (he:Tryz.prog.underlying e=some (.struct #[f0,f1])) (ce:Tryz.prog.cellsOf e=2) (o0:f0.offset=0) (o1:f1.offset=1) (t0:f0.type=3) (t1:f1.type=3)
  (hf:DataW.trod enc Tryz.prog w 0 (fun _=>true) held n t cs=some x):∃(A:Option Addr) (l:List (Int×Int)) (c:Nat),cs=[.slice A l.length c]∧l.length≤c∧c≤maxLen∧Rg w A l:=by
 rcases Go.Deep.open_slice_pairs ht he ce o0 o1 (by rw[t0];kernel_rfl) (by rw[t1];kernel_rfl) hf with ⟨hcs,_⟩|⟨a,len',cap',m,n,V0,V1,D0,D1,P0,P1,hcs,hb,hl,hm,hmm,hx,hi⟩
 ·
  exact ⟨none,[],0,hcs,Nat.zero_le _,Nat.zero_le _,fun h=>absurd h (Nat.lt_irrefl _)⟩
 ·
  simp at hmm
  subst hmm
  have each:∀i,i<len'→∃x:Int×Int,(w.cell? (a.add (i*2))=some (.int .i64 x.1)∧w.cell? (a.add (i*2+1))=some (.int .i64 x.2)):=by
   intro i hi'
   obtain ⟨h0,h1,k0,k1⟩:=hi i (by omega)
   rw[t0] at k0
   rw[t1] at k1
   obtain ⟨y,e0,_,_⟩:=DataW.trod_int Tryz.underlying3 k0
   obtain ⟨z,e1,_,_⟩:=DataW.trod_int Tryz.underlying3 k1
   simp at e0 e1
   rw[e0] at h0
   rw[e1] at h1
   exact ⟨(y,z),h0,h1⟩
  obtain ⟨l,hll,hp⟩:=choose_pr each
  refine ⟨some a,l,_,by rw[hll];exact hcs,by omega,hm,fun hn=>⟨a,rfl,?_,fun k hk=>⟨(hp k hk).1,?_⟩⟩⟩
  ·
   have h0:=(hp 0 hn).1
   rw[Nat.zero_mul] at h0
   exact World.block_lt_of_cell? w _ h0
  ·
   have:=(hp k hk).2
   rw[←this]
   exact (congrArg w.cell? (add_next a (k*2) 0)).symm
end
end
section
open Go.ChangeShapes Go.WideShapes Go.ChangeAt Go.RowKit Go.Joins
theorem cells_point:Tryz.prog.cellsOf 54=2:=by kernel_rfl

end
section
open Go.ChangeShapes Go.WideShapes Go.ChangeAt Go.RowKit Go.Joins
theorem cells_act:Tryz.prog.cellsOf 40=6:=by kernel_rfl
def actC (a:Actt):List Value:=[.int .i64 a.kd, .int .i64 a.now, .int .i64 a.frm, .int .i64 a.unt, .int .i64 a.ix, .slice a.pa a.np a.pc]
def FineA (w:World) (a:Actt):Prop:=a.np≤a.pc∧a.pc≤maxLen∧∃L:List (Int×Int),L.length=a.np∧Rg w a.pa L
section
variable {H:Type} {enc:TypeId×Value→H} {w:World} {held:Bool}
theorem act_cs {n:Nat} {cs:List Value} {x:DataW H×List MemPlace} (hf:DataW.trod enc Tryz.prog w 0 (fun _=>true) held n 40 cs=some x) :
  ∃a:Actt,cs=actC a∧FineA w a:=by
 obtain ⟨xs,k,_,_,hl,hlen,hi⟩:=DataW.trod_struct Tryz.underlying40 hf
 rw[cells_act] at hl
 match cs,hl,xs,hlen with
 | [v0,v1,v2,v3,v4,v5],_,[y0,y1,y2,y3,y4,y5],_=>
  have g0:=hi 0 _ rfl
  have g1:=hi 1 _ rfl
  have g2:=hi 2 _ rfl
  have g3:=hi 3 _ rfl
  have g4:=hi 4 _ rfl
  have g5:=hi 5 _ rfl
  have k3:Tryz.prog.cellsOf 3=1:=by kernel_rfl
  have k22:Tryz.prog.cellsOf 38=1:=by kernel_rfl
  simp[k3,k22] at g0 g1 g2 g3 g4 g5
  obtain ⟨kd,e0,_,_⟩:=DataW.trod_int Tryz.underlying3 g0
  obtain ⟨now,e1,_,_⟩:=DataW.trod_int Tryz.underlying3 g1
  obtain ⟨frm,e2,_,_⟩:=DataW.trod_int Tryz.underlying3 g2
  obtain ⟨unt,e3,_,_⟩:=DataW.trod_int Tryz.underlying3 g3
  obtain ⟨ix,e4,_,_⟩:=DataW.trod_int Tryz.underlying3 g4
  obtain ⟨A,L,c,e5,hc,hm,hr⟩:=pairs_cs Tryz.underlying38 Tryz.underlying54 cells_point rfl rfl rfl rfl g5
  simp at e0 e1 e2 e3 e4 e5
  subst e0 e1 e2 e3 e4 e5
  exact ⟨⟨kd,now,frm,unt,ix,A,L.length,c⟩,rfl,hc,hm,L,rfl,hr⟩
theorem open_act {r:Reach} {b0:Nat} {v:Value} {d:DataW H} {p:List MemPlace} (hv:Value.okWide Tryz.prog w r b0 40 v)
  (h:DataW.Trod enc Tryz.prog w 0 (fun _=>true) held 40 v d p):∃a:Actt,v= .agg #[.int .i64 a.kd, .int .i64 a.now, .int .i64 a.frm, .int .i64 a.unt, .int .i64 a.ix, .slice a.pa a.np a.pc]∧FineA w a:=by
 obtain ⟨cs,rfl,_⟩:=okWide_struct Tryz.underlying40 hv
 obtain ⟨fuel,hf⟩:=h
 obtain ⟨a,hq,hF⟩:=act_cs hf
 refine ⟨a,?_,hF⟩
 congr 1
 have e:cs.toList=actC a:=by simpa [Value.cells] using hq
 cases cs
 simp[actC] at e
 rw[e]
end
end
section
open Go.ChangeShapes Go.WideShapes Go.ChangeAt Go.RowKit Go.Joins
theorem byte_lo {n:Int} (h:(Lit.int .u8 n).wf=true):0≤n:=by
 simp[Lit.wf,IntKind.min,IntKind.max,IntKind.signed,IntKind.bits] at h;omega
theorem byte_hi {n:Int} (h:(Lit.int .u8 n).wf=true):n<256:=by
 simp[Lit.wf,IntKind.min,IntKind.max,IntKind.signed,IntKind.bits] at h;omega
section
variable {H:Type} {enc:TypeId×Value→H} {w:World} {held:Bool}
theorem choose_u8 {m:Nat} {P:Nat→UInt8→Prop} (h:∀i,i<m→∃a,P i a):∃l:List UInt8,l.length=m∧∀i (hi:i<l.length),P i l[i]:=by
 induction m with
 | zero=>exact ⟨[],rfl,fun i hi=>absurd hi (by simp)⟩
 | succ m ih=>
  obtain ⟨l,hl,hp⟩:=ih (fun i hi=>h i (by omega))
  obtain ⟨a,ha⟩:=h m (by omega)
  refine ⟨l++[a],by simp[hl],fun i hi=>?_⟩
  by_cases hlt:i<l.length
  ·
   rw[List.getElem_append_left hlt];exact hp i hlt
  ·
   obtain rfl:i=m:=by simp at hi;omega
   simpa [hl] using ha
theorem open_bytes {r:Reach} {b0:Nat} {v:Value} {d:DataW H} {p:List MemPlace} (hv:Value.okWide Tryz.prog w r b0 49 v)
  (h:DataW.Trod enc Tryz.prog w 0 (fun _=>true) held 49 v d p):∃(A:Option Addr) (l:List UInt8) (c:Nat),v= .slice A l.length c∧l.length≤maxLen∧l.length≤c∧Rb w A l:=by
 obtain ⟨a0,len,cap,rfl⟩:=okWide_slice Tryz.underlying49 hv
 obtain ⟨fuel,hf⟩:=h
 rcases Go.Deep.open_slice1 Tryz.underlying49 (by kernel_rfl) hf with ⟨hcs,_⟩|⟨a,len',cap',m,n,V,D,Pl,hcs,hb,hl,hm,hmm,hx,hi⟩
 ·
  simp[Value.cells] at hcs
  obtain ⟨rfl,rfl,rfl⟩:=hcs
  exact ⟨none,[],0,rfl,Nat.zero_le _,Nat.zero_le _,Rd.nil _ _ _⟩
 ·
  simp[Value.cells] at hcs
  obtain ⟨rfl,rfl,rfl⟩:=hcs
  simp at hmm
  subst hmm
  have each:∀i,i<len→∃b:UInt8,w.cell? (a.add i)=some (.int .u8 b.toNat):=by
   intro i hi'
   obtain ⟨h0,t0⟩:=hi i (by omega)
   obtain ⟨z,e0,_,wz⟩:=DataW.trod_int Tryz.underlying5 t0
   simp at e0
   rw[e0] at h0
   have z0:=byte_lo wz
   have z1:=byte_hi wz
   refine ⟨UInt8.ofNat z.toNat,?_⟩
   have e:((UInt8.ofNat z.toNat).toNat:Int)=z:=by simp;omega
   rw[e]
   exact h0
  obtain ⟨xs,hll,hp⟩:=choose_u8 each
  refine ⟨some a,xs,_,by rw[hll],by omega,by omega,⟨by simp[bys],fun hn=>⟨a,rfl,?_,?_⟩⟩⟩
  ·
   have h0:=hp 0 hn
   have e:(a.add 0).block=a.block:=add_blk _ _
   rw[←e]
   exact World.block_lt_of_cell? w _ h0
  ·
   intro j u hu
   unfold bys at hu
   rw[List.getElem?_map] at hu
   obtain ⟨s,hs,rfl⟩:=Option.map_eq_some_iff.1 hu
   obtain ⟨hj,rfl⟩:=List.getElem?_eq_some_iff.1 hs
   exact hp j hj
end
end
end Go.Proofs.YtoncapkmaeghfaaGreat
