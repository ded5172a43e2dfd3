import Derived.Test.YtoncapkmaeghfaaGreatRunRwRng
import Derived.Test.YtoncapkmaeghfaaGreatRunWiAln
import Derived.Test.YtoncapkmaeghfaaGreatRunAgKnown
import Derived.Lib.Hide
import Derived.BigQuiet
set_option linter.all false
set_option maxRecDepth 1000000
set_option maxHeartbeats 12800000
namespace Go.Proofs.YtoncapkmaeghfaaGreat
open Go.RowKit
def updR (D:Option (List UInt8)) (now:Int) (L:List (Int×Int)):(Int×Int)×Option (List UInt8):=
 match D with
 | none=>((0,5),none)
 | some l=>match opS l with
  | none=>((0,2),some l)
  | some (ag,xf,m)=>if 1≤now∧now≤4294967295 then (((((updS ag xf m now L (0,l)).1:Nat):Int),0),some (updS ag xf m now L (0,l)).2) else ((0,1),some l)
def fetR (D:Option (List UInt8)) (now frm unt:Int):(ByteArray×Int×Int)×List Vl×Int:=
 match D with
 | none=>((⟨#[]⟩,0,0),[],5)
 | some l=>match opS l with
  | none=>((⟨#[]⟩,0,0),[],2)
  | some (_,_,m)=>if 1≤now∧now≤4294967295 then (if frm≤unt∧frm≤now∧0≤unt∧now-spanS m≤unt then ((nmA,startS m (whichS m (now-frS m now frm)) (frS m now frm),((stpS m (whichS m (now-frS m now frm)):Nat):Int)),fetV m l now frm unt,0) else ((⟨#[]⟩,0,0),[],7)) else ((⟨#[]⟩,0,0),[],1)
def rinR (D:Option (List UInt8)) (i:Int):List (Int×Int)×Int:=
 match D with
 | none=>([],5)
 | some l=>match opS l with
  | none=>([],2)
  | some (_,_,m)=>if 0≤i∧i<m.length then (ringS m l i.toNat,0) else ([],1)
def RetFR (o:(ByteArray×Int×Int)×List Vl×Int) (w:World) (e:Ending) (w':World):Prop:=
 Gr w w'∧∃A c,e= .returned (.tuple #[.agg #[.string o.1.1, .int .i64 o.1.2.1, .int .i64 o.1.2.2, .slice A o.2.1.length c, .int .i64 0], .int .i64 o.2.2])∧Rv w' A o.2.1
def RetRR (o:List (Int×Int)×Int) (w:World) (e:Ending) (w':World):Prop:=
 Gr w w'∧∃A c,e= .returned (.tuple #[.slice A o.1.length c, .int .i64 o.2])∧Ri w' A o.1
theorem upd_pos {l:List UInt8} {ag xf:Nat} {m:Arcs} {now:Int} {L:List (Int×Int)} (ho:opS l=some (ag,xf,m)):0<(updS ag xf m now L (0,l)).2.length:=by
 obtain ⟨-,hlen,hM⟩:=opS_of ho
 have hF:=MayF.ofH hM
 have h1:=updS_len (ag:=ag) (xf:=xf) (now:=now) hF L (0,l) hlen.symm
 have h2:=(atS_in hF hF.l1 0)
 omega
theorem Rd.nil0 (w:World):Rv w none []:=⟨rfl,fun h=>absurd h (by simp)⟩
def updOk (D:Option (List UInt8)) (now:Int):Bool:=
 match D with
 | none=>false
 | some l=>match opS l with
  | none=>false
  | some _=>decide (1≤now∧now≤4294967295)
theorem updOk_no {D:Option (List UInt8)} {now:Int} {L:List (Int×Int)} (h:updOk D now=false):(updR D now L).2=D:=by
 unfold updR
 cases D with
 | none=>rfl
 | some l=>
  unfold updOk at h
  cases ho:opS l with
  | none=>simp only[ho]
  | some p=>
   obtain ⟨ag,xf,m⟩:=p
   simp only[ho] at h ⊢
   rw[if_neg (of_decide_eq_false h)]
theorem updOk_yes {D:Option (List UInt8)} {now:Int} (h:updOk D now=true):∃l ag xf m,D=some l∧opS l=some (ag,xf,m)∧(1≤now∧now≤4294967295):=by
 unfold updOk at h
 cases D with
 | none=>cases h
 | some l=>
  cases ho:opS l with
  | none=>simp only[ho] at h;cases h
  | some p=>
   obtain ⟨ag,xf,m⟩:=p
   simp only[ho] at h
   exact ⟨l,ag,xf,m,rfl,ho,of_decide_eq_true h⟩
theorem updR_ok {l:List UInt8} {ag xf:Nat} {m:Arcs} {now:Int} (ho:opS l=some (ag,xf,m)) (hn:1≤now∧now≤4294967295) (L:List (Int×Int)):updR (some l) now L=(((((updS ag xf m now L (0,l)).1:Nat):Int),0),some (updS ag xf m now L (0,l)).2):=by
 simp only[updR,ho];rw[if_pos hn]
theorem wupd_no {Y:Nat→Prop} {F P M:Nat} {R:Option Nat} {n:Nat} {room:Int} {D:Option (List UInt8)} (hD:∀l,D=some l→(l.length:Int)≤1073741824) (now:Int) (A:Option Addr) (c:Nat) (L:List (Int×Int)) (hno:updOk D now=false) (w:World) (h:FsM Y w F P M R room n D):Calls Tryz.prog 23 #[.pointer (some ⟨F,0,none⟩), .string nmA, .int .i64 now, .slice A L.length c] w fun e w'=>e= .returned (.tuple #[.int .i64 (updR D now L).1.1, .int .i64 (updR D now L).1.2])∧Gr w w':=by
 cases D with
 | none=>
  refine (wupdate_gone now _ w h).mono ?_;rintro e w2 ⟨rfl,rfl⟩;exact ⟨rfl,Gr.refl _⟩
 | some l=>
  have hl:=hD l rfl
  cases ho:opS l with
  | none=>
   refine (wupdate_bad hl ho now _ w h).mono ?_;rintro e w2 ⟨rfl,g2⟩;rw[show updR (some l) now L=((0,2),some l) by simp only[updR,ho]];exact ⟨rfl,g2⟩
  | some p=>
   obtain ⟨ag,xf,m⟩:=p
   have hnow:¬(1≤now∧now≤4294967295):=by unfold updOk at hno;simp only[ho] at hno;exact of_decide_eq_false hno
   refine (wupdate_time hl ho now hnow _ w h).mono ?_;rintro e w2 ⟨rfl,g2⟩;rw[show updR (some l) now L=((0,1),some l) by simp only[updR,ho];rw[if_neg hnow]];exact ⟨rfl,g2⟩
theorem xupd_no {Y:Nat→Prop} {X:Nat} {R:Option Nat} {n:Nat} {room:Int} {D:Option (List UInt8)} (hD:∀l,D=some l→(l.length:Int)≤1073741824) (now:Int) (A:Option Addr) (c:Nat) (L:List (Int×Int)) (hno:updOk D now=false) (w:World) (h:RsM Y w X R room n D):Calls Tryz.prog 21 #[.pointer (some ⟨X,0,none⟩), .string nmA, .int .i64 now, .slice A L.length c] w fun e w'=>e= .returned (.tuple #[.int .i64 (updR D now L).1.1, .int .i64 (updR D now L).1.2])∧Gr w w':=by
 cases D with
 | none=>
  refine (xupdate_gone now _ w h).mono ?_;rintro e w2 ⟨rfl,g2⟩;exact ⟨rfl,g2⟩
 | some l=>
  have hl:=hD l rfl
  cases ho:opS l with
  | none=>
   refine (xupdate_bad hl ho now _ w h).mono ?_;rintro e w2 ⟨rfl,g2⟩;rw[show updR (some l) now L=((0,2),some l) by simp only[updR,ho]];exact ⟨rfl,g2⟩
  | some p=>
   obtain ⟨ag,xf,m⟩:=p
   have hnow:¬(1≤now∧now≤4294967295):=by unfold updOk at hno;simp only[ho] at hno;exact of_decide_eq_false hno
   refine (xupdate_time hl ho now hnow _ w h).mono ?_;rintro e w2 ⟨rfl,g2⟩;rw[show updR (some l) now L=((0,1),some l) by simp only[updR,ho];rw[if_neg hnow]];exact ⟨rfl,g2⟩
theorem wupd_yes {Y:Nat→Prop} {F P M:Nat} {R:Option Nat} {n:Nat} {room:Int} {D:Option (List UInt8)} (hD:∀l,D=some l→(l.length:Int)≤1073741824) (hn:n≤900000) (now:Int) (A:Option Addr) (c:Nat) (L:List (Int×Int)) (hL:L.length≤1000) (hyes:updOk D now=true) (w:World) (h:FsM Y w F P M R room n D) (hr:Ri w A L) (hA:0<L.length→∀ad,A=some ad→¬Tch P M R ad.block):Calls Tryz.prog 23 #[.pointer (some ⟨F,0,none⟩), .string nmA, .int .i64 now, .slice A L.length c] w fun e w'=>e= .returned (.tuple #[.int .i64 (updR D now L).1.1, .int .i64 (updR D now L).1.2])∧(∃L2,(updR D now L).2=some L2∧0<L2.length∧FsM (fun _=>False) w' F P M none room 0 (some L2))∧Kp (Tch P M R) w w':=by
 obtain ⟨l,ag,xf,m,rfl,ho,hnow⟩:=updOk_yes hyes
 refine (wupdate_wk (hD l rfl) ho now hnow.1 hnow.2 A c L hL hn w h hr hA).mono ?_;rintro e w2 ⟨rfl,hf,hk⟩;rw[updR_ok ho hnow L];exact ⟨rfl,⟨_,rfl,upd_pos ho,hf⟩,hk⟩
theorem xupd_yes {Y:Nat→Prop} {X:Nat} {R:Option Nat} {n:Nat} {room:Int} {D:Option (List UInt8)} (hD:∀l,D=some l→(l.length:Int)≤1073741824) (hn:n≤800000) (now:Int) (A:Option Addr) (c:Nat) (L:List (Int×Int)) (hL:L.length≤1000) (hyes:updOk D now=true) (w:World) (h:RsM Y w X R room n D) (hr:Ri w A L) (hA:0<L.length→∀ad,A=some ad→¬Xch X R ad.block):Calls Tryz.prog 21 #[.pointer (some ⟨X,0,none⟩), .string nmA, .int .i64 now, .slice A L.length c] w fun e w'=>e= .returned (.tuple #[.int .i64 (updR D now L).1.1, .int .i64 (updR D now L).1.2])∧RsM Y w' X none room 0 (updR D now L).2∧Kp (Xch X R) w w':=by
 obtain ⟨l,ag,xf,m,rfl,ho,hnow⟩:=updOk_yes hyes
 refine (xupdate_any (hD l rfl) ho now hnow.1 hnow.2 A c L hL hn w h hr hA).mono ?_;rintro e w2 ⟨rfl,hf,hk⟩;rw[updR_ok ho hnow L];exact ⟨rfl,hf,hk⟩
theorem wfet_sum {Y:Nat→Prop} {F P M:Nat} {R:Option Nat} {n:Nat} {room:Int} {D:Option (List UInt8)} (hD:∀l,D=some l→(l.length:Int)≤1073741824) (now frm unt:Int) (w:World) (h:FsM Y w F P M R room n D):Calls Tryz.prog 36 #[.pointer (some ⟨F,0,none⟩), .string nmA, .int .i64 now, .int .i64 frm, .int .i64 unt] w (RetFR (fetR D now frm unt) w):=by
 cases D with
 | none=>
  refine (wfetch_gone now frm unt w h).mono ?_;rintro e w2 ⟨rfl,g2⟩;have e9:fetR none now frm unt=((⟨#[]⟩,0,0),[],5):=by rfl
  rw[e9];exact ⟨g2,none,0,rfl,Rd.nil0 _⟩
 | some l=>
  have hl:=hD l rfl
  cases ho:opS l with
  | none=>
   refine (wfetch_bad hl ho now frm unt w h).mono ?_;rintro e w2 ⟨rfl,g2⟩;have e9:fetR (some l) now frm unt=((⟨#[]⟩,0,0),[],2):=by simp only[fetR,ho]
   rw[e9];exact ⟨g2,none,0,rfl,Rd.nil0 _⟩
  | some p=>
   obtain ⟨ag,xf,m⟩:=p
   by_cases hnow:1≤now∧now≤4294967295
   ·
    by_cases hok:frm≤unt∧frm≤now∧0≤unt∧now-spanS m≤unt
    ·
     refine (wfetch_any hl ho now frm unt hnow.1 hnow.2 hok.1 hok.2.1 hok.2.2.1 hok.2.2.2 w h).mono ?_;rintro e w2 ⟨g2,A,c,rfl,hr⟩
     have e9:fetR (some l) now frm unt=((nmA,startS m (whichS m (now-frS m now frm)) (frS m now frm),((stpS m (whichS m (now-frS m now frm)):Nat):Int)),fetV m l now frm unt,0):=by simp only[fetR,ho];rw[if_pos hnow,if_pos hok]
     rw[e9];exact ⟨g2,A,c,rfl,hr⟩
    ·
     refine (wfetch_range hl ho now frm unt hnow.1 hnow.2 hok w h).mono ?_;rintro e w2 ⟨rfl,g2⟩;have e9:fetR (some l) now frm unt=((⟨#[]⟩,0,0),[],7):=by simp only[fetR,ho];rw[if_pos hnow,if_neg hok]
     rw[e9];exact ⟨g2,none,0,rfl,Rd.nil0 _⟩
   ·
    refine (wfetch_time hl ho now frm unt hnow w h).mono ?_;rintro e w2 ⟨rfl,g2⟩;have e9:fetR (some l) now frm unt=((⟨#[]⟩,0,0),[],1):=by simp only[fetR,ho];rw[if_neg hnow]
    rw[e9];exact ⟨g2,none,0,rfl,Rd.nil0 _⟩
theorem xfet_sum {Y:Nat→Prop} {X:Nat} {R:Option Nat} {n:Nat} {room:Int} {D:Option (List UInt8)} (hD:∀l,D=some l→(l.length:Int)≤1073741824) (now frm unt:Int) (w:World) (h:RsM Y w X R room n D):Calls Tryz.prog 37 #[.pointer (some ⟨X,0,none⟩), .string nmA, .int .i64 now, .int .i64 frm, .int .i64 unt] w (RetFR (fetR D now frm unt) w):=by
 cases D with
 | none=>
  refine (xfetch_gone now frm unt w h).mono ?_;rintro e w2 ⟨rfl,g2⟩;have e9:fetR none now frm unt=((⟨#[]⟩,0,0),[],5):=by rfl
  rw[e9];exact ⟨g2,none,0,rfl,Rd.nil0 _⟩
 | some l=>
  have hl:=hD l rfl
  cases ho:opS l with
  | none=>
   refine (xfetch_bad hl ho now frm unt w h).mono ?_;rintro e w2 ⟨rfl,g2⟩;have e9:fetR (some l) now frm unt=((⟨#[]⟩,0,0),[],2):=by simp only[fetR,ho]
   rw[e9];exact ⟨g2,none,0,rfl,Rd.nil0 _⟩
  | some p=>
   obtain ⟨ag,xf,m⟩:=p
   by_cases hnow:1≤now∧now≤4294967295
   ·
    by_cases hok:frm≤unt∧frm≤now∧0≤unt∧now-spanS m≤unt
    ·
     refine (xfetch_any hl ho now frm unt hnow.1 hnow.2 hok.1 hok.2.1 hok.2.2.1 hok.2.2.2 w h).mono ?_;rintro e w2 ⟨g2,A,c,rfl,hr⟩
     have e9:fetR (some l) now frm unt=((nmA,startS m (whichS m (now-frS m now frm)) (frS m now frm),((stpS m (whichS m (now-frS m now frm)):Nat):Int)),fetV m l now frm unt,0):=by simp only[fetR,ho];rw[if_pos hnow,if_pos hok]
     rw[e9];exact ⟨g2,A,c,rfl,hr⟩
    ·
     refine (xfetch_range hl ho now frm unt hnow.1 hnow.2 hok w h).mono ?_;rintro e w2 ⟨rfl,g2⟩;have e9:fetR (some l) now frm unt=((⟨#[]⟩,0,0),[],7):=by simp only[fetR,ho];rw[if_pos hnow,if_neg hok]
     rw[e9];exact ⟨g2,none,0,rfl,Rd.nil0 _⟩
   ·
    refine (xfetch_time hl ho now frm unt hnow w h).mono ?_;rintro e w2 ⟨rfl,g2⟩;have e9:fetR (some l) now frm unt=((⟨#[]⟩,0,0),[],1):=by simp only[fetR,ho];rw[if_neg hnow]
    rw[e9];exact ⟨g2,none,0,rfl,Rd.nil0 _⟩
theorem wrin_sum {Y:Nat→Prop} {F P M:Nat} {R:Option Nat} {n:Nat} {room:Int} {D:Option (List UInt8)} (hD:∀l,D=some l→(l.length:Int)≤1073741824) (i:Int) (w:World) (h:FsM Y w F P M R room n D):Calls Tryz.prog 27 #[.pointer (some ⟨F,0,none⟩), .string nmA, .int .i64 i] w (RetRR (rinR D i) w):=by
 cases D with
 | none=>
  refine (wring_gone i w h).mono ?_;rintro e w2 ⟨rfl,g2⟩;have e9:rinR none i=([],5):=by rfl
  rw[e9];exact ⟨g2,none,0,rfl,Ri.nil _ _⟩
 | some l=>
  have hl:=hD l rfl
  cases ho:opS l with
  | none=>
   refine (wring_bad hl ho i w h).mono ?_;rintro e w2 ⟨rfl,g2⟩;have e9:rinR (some l) i=([],2):=by simp only[rinR,ho]
   rw[e9];exact ⟨g2,none,0,rfl,Ri.nil _ _⟩
  | some p=>
   obtain ⟨ag,xf,m⟩:=p
   by_cases hi:0≤i∧i<m.length
   ·
    obtain ⟨q,rfl⟩:=Int.eq_ofNat_of_zero_le hi.1
    refine (wring_any hl ho q (by omega) w h).mono ?_;rintro e w2 ⟨g2,A,c,rfl,hr⟩
    have e9:rinR (some l) (q:Nat)=(ringS m l q,0):=by simp only[rinR,ho];rw[if_pos hi];rfl
    rw[e9];exact ⟨g2,A,c,rfl,hr⟩
   ·
    refine (wring_range hl ho i hi w h).mono ?_;rintro e w2 ⟨rfl,g2⟩;have e9:rinR (some l) i=([],1):=by simp only[rinR,ho];rw[if_neg hi]
    rw[e9];exact ⟨g2,none,0,rfl,Ri.nil _ _⟩
theorem xrin_sum {Y:Nat→Prop} {X:Nat} {R:Option Nat} {n:Nat} {room:Int} {D:Option (List UInt8)} (hD:∀l,D=some l→(l.length:Int)≤1073741824) (i:Int) (w:World) (h:RsM Y w X R room n D):Calls Tryz.prog 39 #[.pointer (some ⟨X,0,none⟩), .string nmA, .int .i64 i] w (RetRR (rinR D i) w):=by
 cases D with
 | none=>
  refine (xring_gone i w h).mono ?_;rintro e w2 ⟨rfl,g2⟩;have e9:rinR none i=([],5):=by rfl
  rw[e9];exact ⟨g2,none,0,rfl,Ri.nil _ _⟩
 | some l=>
  have hl:=hD l rfl
  cases ho:opS l with
  | none=>
   refine (xring_bad hl ho i w h).mono ?_;rintro e w2 ⟨rfl,g2⟩;have e9:rinR (some l) i=([],2):=by simp only[rinR,ho]
   rw[e9];exact ⟨g2,none,0,rfl,Ri.nil _ _⟩
  | some p=>
   obtain ⟨ag,xf,m⟩:=p
   by_cases hi:0≤i∧i<m.length
   ·
    obtain ⟨q,rfl⟩:=Int.eq_ofNat_of_zero_le hi.1
    refine (xring_any hl ho q (by omega) w h).mono ?_;rintro e w2 ⟨g2,A,c,rfl,hr⟩
    have e9:rinR (some l) (q:Nat)=(ringS m l q,0):=by simp only[rinR,ho];rw[if_pos hi];rfl
    rw[e9];exact ⟨g2,A,c,rfl,hr⟩
   ·
    refine (xring_range hl ho i hi w h).mono ?_;rintro e w2 ⟨rfl,g2⟩;have e9:rinR (some l) i=([],1):=by simp only[rinR,ho];rw[if_neg hi]
    rw[e9];exact ⟨g2,none,0,rfl,Ri.nil _ _⟩
def RetAc (F P M X:Nat) (R R2:Option Nat) (n:Nat) (room:Int) (D:Option (List UInt8)) (w:World) (e:Ending) (w':World):Prop:=e= .returned (.bool true)∧(∃syn:Bool,Par w' F P M X (bif syn then none else R) (bif syn then none else R2) (bif syn then 0 else n) (bif syn then 0 else n) room D D)∧Kp (fun k=>k=P∨k=M∨k=X∨R=some k∨R2=some k) w w'
theorem act_upd {F P M X:Nat} {R R2:Option Nat} {n:Nat} {room:Int} {D:Option (List UInt8)} (hD:∀l,D=some l→(l.length:Int)≤1073741824) (ag xf:Int) (B:Option Addr) (hn hc:Nat) (now frm unt ix:Int) (A:Option Addr) (c:Nat) (L:List (Int×Int)) (hL:L.length≤1000) (hyes:updOk D now=true) (w:World) (hn9:n≤800000) (h:Par w F P M X R R2 n n room D D) (hr:Ri w A L) (hA:0<L.length→∀ad,A=some ad→ad.block≠P∧ad.block≠M∧ad.block≠X∧R≠some ad.block∧R2≠some ad.block) :
  Calls Tryz.prog 13 #[.pointer (some ⟨F,0,none⟩), .pointer (some ⟨X,0,none⟩), .agg #[.int .i64 ag, .int .i64 xf, .slice B hn hc], .agg #[.int .i64 1, .int .i64 now, .int .i64 frm, .int .i64 unt, .int .i64 ix, .slice A L.length c]] w (RetAc F P M X R R2 n room (updR D now L).2 w):=by
 obtain ⟨V1,hV1⟩:∃V1,V1=w.alloc (.cells #[.int .i64 ag, .int .i64 xf, .slice B hn hc] 24):=⟨_,rfl⟩
 have g1:Gr w V1:=by rw[hV1];exact Gr.alloc (Gr.refl w) _
 have hb1:V1.heap.size=w.heap.size+1:=by rw[hV1];simp
 obtain ⟨V2,hV2⟩:∃V2,V2=V1.alloc (.cells #[.int .i64 1, .int .i64 now, .int .i64 frm, .int .i64 unt, .int .i64 ix, .slice A L.length c] 40):=⟨_,rfl⟩
 have g2:Gr V1 V2:=by rw[hV2];exact Gr.alloc (Gr.refl V1) _
 have zb:w.heap.size+1<V2.heap.size:=by rw[hV2,←hb1];simp
 have d0:V2.cell? ⟨w.heap.size+1,0,none⟩=some (.int .i64 1):=by rw[hV2,←hb1];go_simp
 have d1:V2.cell? ⟨w.heap.size+1,1,none⟩=some (.int .i64 now):=by rw[hV2,←hb1];go_simp
 have d2:V2.cell? ⟨w.heap.size+1,2,none⟩=some (.int .i64 frm):=by rw[hV2,←hb1];go_simp
 have d3:V2.cell? ⟨w.heap.size+1,3,none⟩=some (.int .i64 unt):=by rw[hV2,←hb1];go_simp
 have d4:V2.cell? ⟨w.heap.size+1,4,none⟩=some (.int .i64 ix):=by rw[hV2,←hb1];go_simp
 have d5:V2.cell? ⟨w.heap.size+1,5,none⟩=some (.slice A L.length c):=by rw[hV2,←hb1];go_simp
 have HK:Hid (∀(S:Nat→Prop) W,Kp S V2 W→¬S (w.heap.size+1)→∀i,W.cell? ⟨w.heap.size+1,i,none⟩=V2.cell? ⟨w.heap.size+1,i,none⟩):=Lib.hid fun S W k hn i=>k.cell (a:=⟨w.heap.size+1,i,none⟩) zb hn
 have HG:=Lib.hid (g1.trans g2)
 rw[hV1] at hV2
 have HV:=Lib.hid hV2
 clear hV1 hV2 g1 g2 hb1
 obtain ⟨r1,hr1⟩:∃r1,r1=(updR D now L).1.1:=⟨_,rfl⟩
 obtain ⟨r2,hr2⟩:∃r2,r2=(updR D now L).1.2:=⟨_,rfl⟩
 have hu1:=wupd_yes hD (by omega) now A c L hL hyes V2 (h.gr HG.out).fs (hr.gr HG.out) (fun h0 ad e k=>by
  obtain ⟨a1,a2,a3,a4,a5⟩:=hA h0 ad e
  rcases k with k|k|k
  ·
   exact a1 k
  ·
   exact a2 k
  ·
   exact a4 k)
 rw[←hr1,←hr2] at hu1
 have HU1:=Lib.hid hu1
 have lP:=h.fs.lp
 have lM:=h.fs.lm
 have lX:=h.rs.lX
 have lR:∀i,R=some i→i<w.heap.size:=fun i e=>by
  obtain ⟨v,xs,v1,v2,v3⟩:=h.fs.p0
  exact (v3.lt i (by rw[v2];exact e)).2
 have lR2:=h.rs.lR
 have HN1:Hid (¬Tch P M R (w.heap.size+1)):=Lib.hid (fun k=>by
  rcases k with k|k|k
  ·
   omega
  ·
   omega
  ·
   have:=lR _ k;omega)
 have H0:=Lib.hid (h.gr HG.out)
 have HU2:Hid (∀W,Kp (Tch P M R) V2 W→RsM (fun k=>k=F∨k=P∨k=M∨R=some k) W X R2 room n D→Calls Tryz.prog 21 #[.pointer (some ⟨X,0,none⟩), .string nmA, .int .i64 now, .slice A L.length c] W fun e w'=>e= .returned (.tuple #[.int .i64 r1, .int .i64 r2])∧RsM (fun k=>k=F∨k=P∨k=M∨R=some k) w' X none room 0 (updR D now L).2∧Kp (Xch X R2) W w'):=Lib.hid fun W k hx=>by
  rw[hr1,hr2]
  refine xupd_yes hD (by omega) now A c L hL hyes W hx (fun h0=>?_) (fun h0 ad e k=>?_)
  ·
   obtain ⟨ad,e,hb,hcl⟩:=(hr.gr HG.out) h0
   obtain ⟨a1,a2,a3,a4,a5⟩:=hA h0 ad e
   have hbk:∀z,(ad.add z).block<V2.heap.size:=fun z=>by rw[adB];exact hb
   have hnk:∀z,¬Tch P M R (ad.add z).block:=fun z k=>by
    rw[adB] at k
    rcases k with k|k|k
    ·
     exact a1 k
    ·
     exact a2 k
    ·
     exact a4 k
   exact ⟨ad,e,Nat.lt_of_lt_of_le hb k.size,fun j hj=>⟨(k.cell (a:=ad.add (j*2)) (hbk _) (hnk _)).trans (hcl j hj).1,(k.cell (a:=⟨(ad.add (j*2)).block,(ad.add (j*2)).off+1,none⟩) (hbk _) (hnk _)).trans (hcl j hj).2⟩⟩
  ·
   obtain ⟨a1,a2,a3,a4,a5⟩:=hA h0 ad e
   rcases k with k|k
   ·
    exact a3 k
   ·
    exact a5 k
 clear h hr hA hu1 hr1 hr2 lR lR2
 go_enter Tryz.func13,Tryz.ntmps13
 go_upto_region 1 with (fail)
 rw[←HV.out]
 clear HV
 go_wp2_with (first|(go_at_call 23;refine HU1.out.mono ?_;rintro e w3 ⟨rfl,hf3,hk3⟩;have d1':=(HK.out _ w3 hk3 HN1.out 1).trans d1;have d5':=(HK.out _ w3 hk3 HN1.out 5).trans d5;have hx3:=H0.out.rs.kp hk3 (fun g _ e=>by rcases e with e|e|e;exact .inr (.inl e);exact .inr (.inr (.inl e));exact .inr (.inr (.inr e)));have H3:=Lib.hid (And.intro hf3 (And.intro hk3 hx3));clear hf3 hk3 hx3)|(go_at_call 21;refine (HU2.out _ H3.out.2.1 H3.out.2.2).mono ?_;rintro e w4 ⟨rfl,hf4,hk4⟩;have H4:=Lib.hid (And.intro hf4 hk4);clear hf4 hk4))
 go_ret
 have hk:Kp (fun k=>k=P∨k=M∨k=X∨R=some k∨R2=some k) w w4:=((Kp.of_gr (fun k=>k=P∨k=M∨k=X∨R=some k∨R2=some k) HG.out).trans H3.out.2.1 (fun i _ e=>by
  rcases e with e|e|e
  ·
   exact .inl e
  ·
   exact .inr (.inl e)
  ·
   exact .inr (.inr (.inr (.inl e))))).trans H4.out.2 (fun i _ e=>by
  rcases e with e|e
  ·
   exact .inr (.inr (.inl e))
  ·
   exact .inr (.inr (.inr (.inr e))))
 obtain ⟨L2,e,h0,hf⟩:=H3.out.1
 have hp:=(H0.out.left hf h0 H3.out.2.1).right (H4.out.1.weak (fun k e=>by
  rcases e with e|e|e|e
  ·
   exact .inl e
  ·
   exact .inr (.inl e)
  ·
   exact .inr (.inr (.inl e))
  ·
   cases e)) H4.out.2
 rw[←e] at hp
 exact ⟨by simp,⟨true,hp⟩,hk⟩
theorem act_upd0 {F P M X:Nat} {R R2:Option Nat} {n:Nat} {room:Int} {D:Option (List UInt8)} (hD:∀l,D=some l→(l.length:Int)≤1073741824) (ag xf:Int) (B:Option Addr) (hn hc:Nat) (now frm unt ix:Int) (A:Option Addr) (c:Nat) (L:List (Int×Int)) (hno:updOk D now=false) (w:World) (hn9:n≤800000) (h:Par w F P M X R R2 n n room D D) :
  Calls Tryz.prog 13 #[.pointer (some ⟨F,0,none⟩), .pointer (some ⟨X,0,none⟩), .agg #[.int .i64 ag, .int .i64 xf, .slice B hn hc], .agg #[.int .i64 1, .int .i64 now, .int .i64 frm, .int .i64 unt, .int .i64 ix, .slice A L.length c]] w (RetAc F P M X R R2 n room (updR D now L).2 w):=by
 obtain ⟨V1,hV1⟩:∃V1,V1=w.alloc (.cells #[.int .i64 ag, .int .i64 xf, .slice B hn hc] 24):=⟨_,rfl⟩
 have g1:Gr w V1:=by rw[hV1];exact Gr.alloc (Gr.refl w) _
 have hb1:V1.heap.size=w.heap.size+1:=by rw[hV1];simp
 obtain ⟨V2,hV2⟩:∃V2,V2=V1.alloc (.cells #[.int .i64 1, .int .i64 now, .int .i64 frm, .int .i64 unt, .int .i64 ix, .slice A L.length c] 40):=⟨_,rfl⟩
 have g2:Gr V1 V2:=by rw[hV2];exact Gr.alloc (Gr.refl V1) _
 have zb:w.heap.size+1<V2.heap.size:=by rw[hV2,←hb1];simp
 have d0:V2.cell? ⟨w.heap.size+1,0,none⟩=some (.int .i64 1):=by rw[hV2,←hb1];go_simp
 have d1:V2.cell? ⟨w.heap.size+1,1,none⟩=some (.int .i64 now):=by rw[hV2,←hb1];go_simp
 have d2:V2.cell? ⟨w.heap.size+1,2,none⟩=some (.int .i64 frm):=by rw[hV2,←hb1];go_simp
 have d3:V2.cell? ⟨w.heap.size+1,3,none⟩=some (.int .i64 unt):=by rw[hV2,←hb1];go_simp
 have d4:V2.cell? ⟨w.heap.size+1,4,none⟩=some (.int .i64 ix):=by rw[hV2,←hb1];go_simp
 have d5:V2.cell? ⟨w.heap.size+1,5,none⟩=some (.slice A L.length c):=by rw[hV2,←hb1];go_simp
 have HG:=Lib.hid (g1.trans g2)
 rw[hV1] at hV2
 have HV:=Lib.hid hV2
 clear hV1 hV2 g1 g2 hb1
 obtain ⟨r1,hr1⟩:∃r1,r1=(updR D now L).1.1:=⟨_,rfl⟩
 obtain ⟨r2,hr2⟩:∃r2,r2=(updR D now L).1.2:=⟨_,rfl⟩
 have hu1:=wupd_no hD now A c L hno V2 (h.gr HG.out).fs
 have hu2:=fun W (g:Gr V2 W)=>xupd_no hD now A c L hno W ((h.gr HG.out).gr g).rs
 rw[←hr1,←hr2] at hu1 hu2
 have HU1:=Lib.hid hu1
 have HU2:=Lib.hid hu2
 have HP:=Lib.hid (fun W (g:Gr w W)=>h.gr g)
 have HNO:=Lib.hid hno
 have hcl:∀W,Gr V2 W→∀i,W.cell? ⟨w.heap.size+1,i,none⟩=V2.cell? ⟨w.heap.size+1,i,none⟩:=fun W g i=>Below.cell g (p:=⟨w.heap.size+1,i,none⟩) zb
 have HKg:=Lib.hid hcl
 clear h hu1 hu2 hr1 hr2 hno hcl
 go_enter Tryz.func13,Tryz.ntmps13
 go_upto_region 1 with (fail)
 rw[←HV.out]
 clear HV
 go_wp2_with (first|(go_at_call 23;refine HU1.out.mono ?_;rintro e w3 ⟨rfl,g3⟩;have d1':=(HKg.out w3 g3 1).trans d1;have d5':=(HKg.out w3 g3 5).trans d5;have H3:=Lib.hid g3;clear g3)|(go_at_call 21;refine (HU2.out _ H3.out).mono ?_;rintro e w4 ⟨rfl,g4⟩;have H4:=Lib.hid (HG.out.trans (H3.out.trans g4));clear g4))
 go_ret
 rw[updOk_no HNO.out]
 exact ⟨by simp,⟨false,HP.out _ H4.out⟩,Kp.of_gr _ H4.out⟩
theorem tl_of {a b:ByteArray} (h:a.toList=b.toList):a=b:=by
 rw[ByteArray.toList_eq,ByteArray.toList_eq] at h
 cases a;cases b;simp at h;rw[h]
theorem tl_ne {a b:ByteArray} (h:a≠b):(a.toList==b.toList)=false:=beq_eq_false_iff_ne.2 fun e=>h (tl_of e)
theorem vl_ext {a b:Vl} (h0:a.ok=b.ok) (h1:a.n=b.n):a=b:=by
 cases a;cases b;simp at h0 h1;subst h0 h1;rfl
theorem take_eq {l m:List Vl} {k:Nat} (hl:k<l.length) (hm:k<m.length) (h:l.take k=m.take k) (e:l[k]=m[k]):l.take (k+1)=m.take (k+1):=by
 rw[List.take_succ_eq_append_getElem hl,List.take_succ_eq_append_getElem hm,h,e]
theorem at_ne {l m:List Vl} {k:Nat} (hl:k<l.length) (hm:k<m.length) (e:l[k]≠m[k]):l≠m:=by
 intro h;subst h;exact e rfl
def RetB (p:Prop) (w:World) (e:Ending) (w':World):Prop:=(∃b:Bool,e= .returned (.bool b)∧(b=true↔p))∧Gr w w'
theorem rsame_any (na nb:ByteArray) (sa sb pa pb ka kb:Int) (l m:List Vl) (A A':Option Addr) (c c':Nat) (w:World) (hl:l.length≤1000000) (hm:m.length≤1000000) (hr:Rv w A l) (hr':Rv w A' m) :
  Calls Tryz.prog 38 #[.agg #[.string na, .int .i64 sa, .int .i64 pa, .slice A l.length c, .int .i64 ka],(.agg #[.string nb, .int .i64 sb, .int .i64 pb, .slice A' m.length c', .int .i64 kb])] w (RetB ((⟨na,sa,pa,l,ka⟩:Sr)=⟨nb,sb,pb,m,kb⟩) w):=by
 have hl1:(l.length:Int)≤1000000:=by omega
 have hm1:(m.length:Int)≤1000000:=by omega
 by_cases hn:na=nb
 case neg=>
  have hq:(na.toList==nb.toList)=false:=tl_ne hn
  have hq':(na.toList != nb.toList)=true:=by simp only[bne,hq,Bool.not_false]
  have hne:Hid ((⟨na,sa,pa,l,ka⟩:Sr)≠⟨nb,sb,pb,m,kb⟩):=Lib.hid (fun h=>hn (congrArg Sr.name h))
  clear hn
  go_enter Tryz.func38,Tryz.ntmps38
  go_wp2
  go_ret
  exact ⟨⟨_,rfl,fun h=>(by cases h),fun h=>absurd h hne.out⟩,gq⟩
 subst hn
 by_cases hs:sa=sb
 case neg=>
  have hq:(sa==sb)=false:=beq_eq_false_iff_ne.2 hs
  have hq':(sa != sb)=true:=by simp only[bne,hq,Bool.not_false]
  have hne:Hid ((⟨na,sa,pa,l,ka⟩:Sr)≠⟨na,sb,pb,m,kb⟩):=Lib.hid (fun h=>hs (congrArg Sr.start h))
  clear hs
  go_enter Tryz.func38,Tryz.ntmps38
  go_wp2
  go_ret
  exact ⟨⟨_,rfl,fun h=>(by cases h),fun h=>absurd h hne.out⟩,gq⟩
 subst hs
 by_cases hp:pa=pb
 case neg=>
  have hq:(pa==pb)=false:=beq_eq_false_iff_ne.2 hp
  have hq':(pa != pb)=true:=by simp only[bne,hq,Bool.not_false]
  have hne:Hid ((⟨na,sa,pa,l,ka⟩:Sr)≠⟨na,sa,pb,m,kb⟩):=Lib.hid (fun h=>hp (congrArg Sr.step h))
  clear hp
  go_enter Tryz.func38,Tryz.ntmps38
  go_wp2
  go_ret
  exact ⟨⟨_,rfl,fun h=>(by cases h),fun h=>absurd h hne.out⟩,gq⟩
 subst hp
 by_cases hk:ka=kb
 case neg=>
  have hq:(ka==kb)=false:=beq_eq_false_iff_ne.2 hk
  have hq':(ka != kb)=true:=by simp only[bne,hq,Bool.not_false]
  have hne:Hid ((⟨na,sa,pa,l,ka⟩:Sr)≠⟨na,sa,pa,m,kb⟩):=Lib.hid (fun h=>hk (congrArg Sr.cons h))
  clear hk
  go_enter Tryz.func38,Tryz.ntmps38
  go_wp2
  go_ret
  exact ⟨⟨_,rfl,fun h=>(by cases h),fun h=>absurd h hne.out⟩,gq⟩
 subst hk
 by_cases hlen:l.length=m.length
 case neg=>
  have hq:((l.length:Int) != (m.length:Int))=true:=by simp;omega
  have hq':((l.length:Int)==(m.length:Int))=false:=by simp;omega
  have hq2:(l.length==m.length)=false:=by simp;omega
  have hne:Hid ((⟨na,sa,pa,l,ka⟩:Sr)≠⟨na,sa,pa,m,ka⟩):=Lib.hid (fun h=>hlen (congrArg List.length (congrArg Sr.vals h)))
  clear hlen
  go_enter Tryz.func38,Tryz.ntmps38
  go_wp2
  go_ret
  exact ⟨⟨_,rfl,fun h=>(by cases h),fun h=>absurd h hne.out⟩,gq⟩
 rw[←hlen]
 have HL:=Lib.hid hlen;clear hlen
 have HL2:Hid (∀k,k<l.length→k<m.length):=Lib.hid (fun k h=>by rw[←HL.out];exact h)
 go_enter Tryz.func38,Tryz.ntmps38
 go_wp2
 go_loopw [5] (fun i wr=>∃k:Nat,k≤l.length∧i= .int .i64 k∧Gr w wr∧Hid (l.take k=m.take k)∧wr.cell? ⟨w.heap.size,3,none⟩=some (.slice A l.length c)∧wr.cell? ⟨w.heap.size+1,3,none⟩=some (.slice A' l.length c')) (fun i _=>l.length-(intOf i).toNat)
 case atStart=>exact ⟨0,Nat.zero_le _,rfl,gq,Lib.hid rfl,by go_simp,by go_simp⟩
 case round=>
  obtain ⟨k,hk,rfl,hgr,ht,hc3,hd3⟩:=hrel
  by_cases hlt:k<l.length
  ·
   
   obtain ⟨ad,rfl,hb,hx0,hx1⟩:=(hr.gr hgr).at hlt
   have hlt':=HL2.out k hlt
   obtain ⟨ad',rfl,hb',hy0,hy1⟩:=(hr'.gr hgr).at hlt'
   have Ht:=Lib.hid (take_eq hlt hlt' ht.out)
   have Hn:=Lib.hid (at_ne hlt hlt')
   obtain ⟨x,hxk⟩:∃x,l[k]=x:=⟨_,rfl⟩
   obtain ⟨y,hyk⟩:∃y,m[k]=y:=⟨_,rfl⟩
   rw[hxk] at hx0 hx1 Ht Hn
   rw[hyk] at hy0 hy1 Ht Hn
   have HX:=Lib.hid (And.intro hxk hyk);clear hxk hyk
   cases hq0:(x.ok==y.ok)
   case false=>
    have hne:Hid (x≠y):=Lib.hid (fun h=>by rw[h] at hq0;simp at hq0)
    cases hq1:(x.n==y.n)
    all_goals
     go_wp2
     go_quiet (fail)
     go_wp2
     go_ret
     exact ⟨⟨_,rfl,fun h=>(by cases h),fun h=>absurd h (fun h=>(Hn.out hne.out) (congrArg Sr.vals h))⟩,(by repeat (first|exact Gr.refl _|assumption|refine Gr.drewN ?_ _|refine Gr.alloc ?_ _|refine Gr.drew ?_|refine Gr.setCell ?_ (by first|(simp;done)|(simp;omega)|omega) _|refine Gr.trans ?_ (by assumption)))⟩
   case true=>
    cases hq1:(x.n==y.n)
    case false=>
     have hne:Hid (x≠y):=Lib.hid (fun h=>by rw[h] at hq1;simp at hq1)
     go_wp2
     go_quiet (fail)
     go_wp2
     go_ret
     exact ⟨⟨_,rfl,fun h=>(by cases h),fun h=>absurd h (fun h=>(Hn.out hne.out) (congrArg Sr.vals h))⟩,(by repeat (first|exact Gr.refl _|assumption|refine Gr.drewN ?_ _|refine Gr.alloc ?_ _|refine Gr.drew ?_|refine Gr.setCell ?_ (by first|(simp;done)|(simp;omega)|omega) _|refine Gr.trans ?_ (by assumption)))⟩
    case true=>
     have heq:Hid (x=y):=Lib.hid (vl_ext (by simpa using hq0) (by simpa using hq1))
     go_wp2
     go_quiet (fail)
     go_wp2
     go_roundw
     case rel=>exact ⟨k+1,by omega,by go_num,(by repeat (first|exact Gr.refl _|assumption|refine Gr.drewN ?_ _|refine Gr.alloc ?_ _|refine Gr.drew ?_|refine Gr.setCell ?_ (by first|(simp;done)|(simp;omega)|omega) _|refine Gr.trans ?_ (by assumption))),Lib.hid (Ht.out heq.out),hc3,hd3⟩
     case measure=>simp[intOf];omega
  ·
   have hkk:k=l.length:=by omega
   subst hkk
   have Heq:Hid (l=m):=Lib.hid (by have:=ht.out;rw[List.take_length,HL.out,List.take_length] at this;exact this)
   go_wp2
   go_ret
   exact ⟨⟨_,rfl,fun _=>by rw[Heq.out],fun _=>rfl⟩,gq⟩
theorem act_fet {F P M X:Nat} {R R2:Option Nat} {n:Nat} {room:Int} {D:Option (List UInt8)} (hD:∀l,D=some l→(l.length:Int)≤1073741824) (ag xf:Int) (B:Option Addr) (hn hc:Nat) (now frm unt ix:Int) (A:Option Addr) (c:Nat) (L:List (Int×Int)) (w:World) (h:Par w F P M X R R2 n n room D D) (hv:(fetR D now frm unt).2.1.length≤1000000) :
  Calls Tryz.prog 13 #[.pointer (some ⟨F,0,none⟩), .pointer (some ⟨X,0,none⟩), .agg #[.int .i64 ag, .int .i64 xf, .slice B hn hc], .agg #[.int .i64 2, .int .i64 now, .int .i64 frm, .int .i64 unt, .int .i64 ix, .slice A L.length c]] w (RetAc F P M X R R2 n room D w):=by
 obtain ⟨V1,hV1⟩:∃V1,V1=w.alloc (.cells #[.int .i64 ag, .int .i64 xf, .slice B hn hc] 24):=⟨_,rfl⟩
 have g1:Gr w V1:=by rw[hV1];exact Gr.alloc (Gr.refl w) _
 have hb1:V1.heap.size=w.heap.size+1:=by rw[hV1];simp
 obtain ⟨V2,hV2⟩:∃V2,V2=V1.alloc (.cells #[.int .i64 2, .int .i64 now, .int .i64 frm, .int .i64 unt, .int .i64 ix, .slice A L.length c] 40):=⟨_,rfl⟩
 have g2:Gr V1 V2:=by rw[hV2];exact Gr.alloc (Gr.refl V1) _
 have zb:w.heap.size+1<V2.heap.size:=by rw[hV2,←hb1];simp
 have d0:V2.cell? ⟨w.heap.size+1,0,none⟩=some (.int .i64 2):=by rw[hV2,←hb1];go_simp
 have d1:V2.cell? ⟨w.heap.size+1,1,none⟩=some (.int .i64 now):=by rw[hV2,←hb1];go_simp
 have d2:V2.cell? ⟨w.heap.size+1,2,none⟩=some (.int .i64 frm):=by rw[hV2,←hb1];go_simp
 have d3:V2.cell? ⟨w.heap.size+1,3,none⟩=some (.int .i64 unt):=by rw[hV2,←hb1];go_simp
 have d4:V2.cell? ⟨w.heap.size+1,4,none⟩=some (.int .i64 ix):=by rw[hV2,←hb1];go_simp
 have d5:V2.cell? ⟨w.heap.size+1,5,none⟩=some (.slice A L.length c):=by rw[hV2,←hb1];go_simp
 have HK:Hid (∀(S:Nat→Prop) W,Kp S V2 W→¬S (w.heap.size+1)→∀i,W.cell? ⟨w.heap.size+1,i,none⟩=V2.cell? ⟨w.heap.size+1,i,none⟩):=Lib.hid fun S W k hn i=>k.cell (a:=⟨w.heap.size+1,i,none⟩) zb hn
 have HG:=Lib.hid (g1.trans g2)
 rw[hV1] at hV2
 have HV:=Lib.hid hV2
 clear hV1 hV2 g1 g2 hb1
 obtain ⟨⟨⟨nm,st,sp⟩,vs,er⟩,hf⟩:∃f,f=fetR D now frm unt:=⟨_,rfl⟩
 have hu1:=wfet_sum hD now frm unt V2 (h.gr HG.out).fs
 have hu2:=fun W (g:Gr V2 W)=>xfet_sum hD now frm unt W ((h.gr HG.out).gr g).rs
 rw[←hf] at hu1 hu2 hv
 have HU1:=Lib.hid hu1
 have HU2:=Lib.hid hu2
 have HVL:=Lib.hid hv
 have HP:=Lib.hid (fun W (g:Gr w W)=>h.gr g)
 have HKg:Hid (∀W,Gr V2 W→∀i,W.cell? ⟨w.heap.size+1,i,none⟩=V2.cell? ⟨w.heap.size+1,i,none⟩):=Lib.hid fun W g i=>HK.out _ W (Kp.of_gr (fun _=>False) g) (fun e=>e) i
 clear h hu1 hu2 hf hv HK
 go_enter Tryz.func13,Tryz.ntmps13
 go_upto_region 1 with (fail)
 rw[←HV.out]
 clear HV
 go_upto_region 8 with (go_at_call 36;refine HU1.out.mono ?_;rintro e w3 ⟨g3,A3,c3,rfl,hv3⟩;have d1':=(HKg.out w3 g3 1).trans d1;have d2':=(HKg.out w3 g3 2).trans d2;have d3':=(HKg.out w3 g3 3).trans d3;have H3:=Lib.hid (And.intro g3 hv3);have z3:=g3.size;clear g3 hv3)
 obtain ⟨V3,hV3⟩:∃V3,V3=w3.alloc (.cells #[.string nm, .int .i64 st, .int .i64 sp, .slice A3 vs.length c3, .int .i64 0] 89):=⟨_,rfl⟩
 have k3:Gr w3 V3:=by rw[hV3];exact Gr.alloc (Gr.refl w3) _
 have zV3:w3.heap.size<V3.heap.size:=by rw[hV3];simp
 have s0:V3.cell? ⟨w3.heap.size,0,none⟩=some (.string nm):=by rw[hV3];go_simp
 have s1:V3.cell? ⟨w3.heap.size,1,none⟩=some (.int .i64 st):=by rw[hV3];go_simp
 have s2:V3.cell? ⟨w3.heap.size,2,none⟩=some (.int .i64 sp):=by rw[hV3];go_simp
 have s3:V3.cell? ⟨w3.heap.size,3,none⟩=some (.slice A3 vs.length c3):=by rw[hV3];go_simp
 have s4:V3.cell? ⟨w3.heap.size,4,none⟩=some (.int .i64 0):=by rw[hV3];go_simp
 have e1:=(Below.cell k3 (p:=⟨w.heap.size+1,1,none⟩) (Nat.lt_of_lt_of_le zb z3)).trans d1'
 have e2:=(Below.cell k3 (p:=⟨w.heap.size+1,2,none⟩) (Nat.lt_of_lt_of_le zb z3)).trans d2'
 have e3:=(Below.cell k3 (p:=⟨w.heap.size+1,3,none⟩) (Nat.lt_of_lt_of_le zb z3)).trans d3'
 have HG3:=Lib.hid (And.intro (H3.out.1.trans k3) k3)
 rw[←hV3]
 clear hV3 k3 d1' d2' d3' d1 d2 d3
 go_upto_region 9 with (go_at_call 37;refine (HU2.out _ HG3.out.1).mono ?_;rintro e w4 ⟨g4,A4,c4,rfl,hv4⟩;have s0':=(Below.cell g4 (p:=⟨w3.heap.size,0,none⟩) zV3).trans s0;have s1':=(Below.cell g4 (p:=⟨w3.heap.size,1,none⟩) zV3).trans s1;have s2':=(Below.cell g4 (p:=⟨w3.heap.size,2,none⟩) zV3).trans s2;have s3':=(Below.cell g4 (p:=⟨w3.heap.size,3,none⟩) zV3).trans s3;have s4':=(Below.cell g4 (p:=⟨w3.heap.size,4,none⟩) zV3).trans s4;have H4:=Lib.hid (And.intro g4 hv4);have z4:=g4.size;clear g4 hv4 s0 s1 s2 s3 s4)
 obtain ⟨V4,hV4⟩:∃V4,V4=w4.alloc (.cells #[.string nm, .int .i64 st, .int .i64 sp, .slice A4 vs.length c4, .int .i64 0] 89):=⟨_,rfl⟩
 have k4:Gr w4 V4:=by rw[hV4];exact Gr.alloc (Gr.refl w4) _
 have zV4:w4.heap.size<V4.heap.size:=by rw[hV4];simp
 have u0:V4.cell? ⟨w4.heap.size,0,none⟩=some (.string nm):=by rw[hV4];go_simp
 have u1:V4.cell? ⟨w4.heap.size,1,none⟩=some (.int .i64 st):=by rw[hV4];go_simp
 have u2:V4.cell? ⟨w4.heap.size,2,none⟩=some (.int .i64 sp):=by rw[hV4];go_simp
 have u3:V4.cell? ⟨w4.heap.size,3,none⟩=some (.slice A4 vs.length c4):=by rw[hV4];go_simp
 have u4:V4.cell? ⟨w4.heap.size,4,none⟩=some (.int .i64 0):=by rw[hV4];go_simp
 have t0:=(Below.cell k4 (p:=⟨w3.heap.size,0,none⟩) (Nat.lt_of_lt_of_le zV3 z4)).trans s0'
 have t1:=(Below.cell k4 (p:=⟨w3.heap.size,1,none⟩) (Nat.lt_of_lt_of_le zV3 z4)).trans s1'
 have t2:=(Below.cell k4 (p:=⟨w3.heap.size,2,none⟩) (Nat.lt_of_lt_of_le zV3 z4)).trans s2'
 have t3:=(Below.cell k4 (p:=⟨w3.heap.size,3,none⟩) (Nat.lt_of_lt_of_le zV3 z4)).trans s3'
 have t4:=(Below.cell k4 (p:=⟨w3.heap.size,4,none⟩) (Nat.lt_of_lt_of_le zV3 z4)).trans s4'
 have HRV:=Lib.hid (And.intro (((H3.out.2.gr HG3.out.2).gr H4.out.1).gr k4) (H4.out.2.gr k4))
 have HG4:=Lib.hid ((HG3.out.1.trans H4.out.1).trans k4)
 rw[←hV4]
 clear hV4 k4 s0' s1' s2' s3' s4' e1 e2 e3
 have hsm:=rsame_any nm nm st st sp sp 0 0 vs vs A3 A4 c3 c4 V4 HVL.out HVL.out HRV.out.1 HRV.out.2
 have HSM:=Lib.hid hsm
 clear hsm
 go_wp2_with (go_at_call 38;refine HSM.out.mono ?_;rintro e w5 ⟨⟨bb,rfl,hbb⟩,g5⟩;have hbt:bb=true:=hbb.2 rfl;subst hbt;clear hbb;have HG5:=Lib.hid (HG4.out.trans g5);clear g5)
 go_ret
 exact ⟨by simp,⟨false,HP.out _ (HG.out.trans HG5.out)⟩,Kp.of_gr _ (HG.out.trans HG5.out)⟩
theorem act_rin {F P M X:Nat} {R R2:Option Nat} {n:Nat} {room:Int} {D:Option (List UInt8)} (hD:∀l,D=some l→(l.length:Int)≤1073741824) (ag xf:Int) (B:Option Addr) (hn hc:Nat) (now frm unt ix:Int) (A:Option Addr) (c:Nat) (L:List (Int×Int)) (w:World) (h:Par w F P M X R R2 n n room D D) (hv:(rinR D ix).1.length≤100000000) :
  Calls Tryz.prog 13 #[.pointer (some ⟨F,0,none⟩), .pointer (some ⟨X,0,none⟩), .agg #[.int .i64 ag, .int .i64 xf, .slice B hn hc], .agg #[.int .i64 3, .int .i64 now, .int .i64 frm, .int .i64 unt, .int .i64 ix, .slice A L.length c]] w (RetAc F P M X R R2 n room D w):=by
 obtain ⟨V1,hV1⟩:∃V1,V1=w.alloc (.cells #[.int .i64 ag, .int .i64 xf, .slice B hn hc] 24):=⟨_,rfl⟩
 have g1:Gr w V1:=by rw[hV1];exact Gr.alloc (Gr.refl w) _
 have hb1:V1.heap.size=w.heap.size+1:=by rw[hV1];simp
 obtain ⟨V2,hV2⟩:∃V2,V2=V1.alloc (.cells #[.int .i64 3, .int .i64 now, .int .i64 frm, .int .i64 unt, .int .i64 ix, .slice A L.length c] 40):=⟨_,rfl⟩
 have g2:Gr V1 V2:=by rw[hV2];exact Gr.alloc (Gr.refl V1) _
 have zb:w.heap.size+1<V2.heap.size:=by rw[hV2,←hb1];simp
 have d0:V2.cell? ⟨w.heap.size+1,0,none⟩=some (.int .i64 3):=by rw[hV2,←hb1];go_simp
 have d1:V2.cell? ⟨w.heap.size+1,1,none⟩=some (.int .i64 now):=by rw[hV2,←hb1];go_simp
 have d2:V2.cell? ⟨w.heap.size+1,2,none⟩=some (.int .i64 frm):=by rw[hV2,←hb1];go_simp
 have d3:V2.cell? ⟨w.heap.size+1,3,none⟩=some (.int .i64 unt):=by rw[hV2,←hb1];go_simp
 have d4:V2.cell? ⟨w.heap.size+1,4,none⟩=some (.int .i64 ix):=by rw[hV2,←hb1];go_simp
 have d5:V2.cell? ⟨w.heap.size+1,5,none⟩=some (.slice A L.length c):=by rw[hV2,←hb1];go_simp
 have HK:Hid (∀(S:Nat→Prop) W,Kp S V2 W→¬S (w.heap.size+1)→∀i,W.cell? ⟨w.heap.size+1,i,none⟩=V2.cell? ⟨w.heap.size+1,i,none⟩):=Lib.hid fun S W k hn i=>k.cell (a:=⟨w.heap.size+1,i,none⟩) zb hn
 have HG:=Lib.hid (g1.trans g2)
 rw[hV1] at hV2
 have HV:=Lib.hid hV2
 clear hV1 hV2 g1 g2 hb1
 obtain ⟨⟨ps,er⟩,hf⟩:∃f,f=rinR D ix:=⟨_,rfl⟩
 have hu1:=wrin_sum hD ix V2 (h.gr HG.out).fs
 have hu2:=fun W (g:Gr V2 W)=>xrin_sum hD ix W ((h.gr HG.out).gr g).rs
 rw[←hf] at hu1 hu2 hv
 simp only at hv
 have HU1:=Lib.hid hu1
 have HU2:=Lib.hid hu2
 have hvi:(ps.length:Int)≤100000000:=by omega
 have HP:=Lib.hid (fun W (g:Gr w W)=>h.gr g)
 have HKg:Hid (∀W,Gr V2 W→∀i,W.cell? ⟨w.heap.size+1,i,none⟩=V2.cell? ⟨w.heap.size+1,i,none⟩):=Lib.hid fun W g i=>HK.out _ W (Kp.of_gr (fun _=>False) g) (fun e=>e) i
 clear h hu1 hu2 hf hv HK
 go_enter Tryz.func13,Tryz.ntmps13
 go_upto_region 1 with (fail)
 rw[←HV.out]
 clear HV
 go_upto_region 16 with (first|(go_at_call 27;refine HU1.out.mono ?_;rintro e w3 ⟨g3,A3,c3,rfl,hv3⟩;have d4':=(HKg.out w3 g3 4).trans d4;have H3:=Lib.hid (And.intro g3 hv3);have z3:=g3.size;clear g3 hv3)|(go_at_call 39;refine (HU2.out _ H3.out.1).mono ?_;rintro e w4 ⟨g4,A4,c4,rfl,hv4⟩;have H4:=Lib.hid (And.intro (H3.out.1.trans g4) (And.intro (H3.out.2.gr g4) hv4));clear g4 hv4 d4'))
 clear d0 d1 d2 d3 d4 d5
 go_loopw [21] (fun k wr=>∃q:Nat,q≤ps.length∧k= .int .i64 q∧Gr w4 wr) (fun k _=>ps.length-(intOf k).toNat)
 case atStart=>exact ⟨0,Nat.zero_le _,rfl,Gr.refl _⟩
 case round=>
  obtain ⟨q,hq,rfl,hgr⟩:=hrel
  by_cases hlt:q<ps.length
  ·
   have hlti:(q:Int)<(ps.length:Int):=by omega
   obtain ⟨ad,rfl,hp⟩:=Ri.cells (H4.out.2.1.gr hgr) (by omega)
   obtain ⟨ad',rfl,hp'⟩:=Ri.cells (H4.out.2.2.gr hgr) (by omega)
   obtain ⟨x,hx⟩:∃x,x=ps[q].1:=⟨_,rfl⟩
   obtain ⟨y,hy⟩:∃y,y=ps[q].2:=⟨_,rfl⟩
   have hp:=hp q hlt
   have hp':=hp' q hlt
   rw[←hx,←hy] at hp hp'
   have HP1:=Lib.hid hp
   have HP2:=Lib.hid hp'
   have HGR:=Lib.hid hgr
   have hwq:IntKind.i64.wrap (q:Int)=(q:Int):=IntWalk.i64_in _ (by omega)
   clear hp hp' hx hy hgr
   go_upto_region 18 with (fail)
   refine region_R (by kernel_rfl) (by kernel_rfl) ?_
   iterate 3 (refine rv ?_;simp only[Pu])
   refine r_val (v:=?qv4) (by kernel_rfl) (fun W hW=>?qh4) ?qr4
   case qh4=>obtain ⟨p0,p1⟩:=HP1.out W hW;go_light;go_simp;rfl
   simp only[Pu]
   iterate 3 (refine rv ?_;simp only[Pu])
   refine r_val (v:=?qv8) (by kernel_rfl) (fun W hW=>?qh8) ?qr8
   case qh8=>obtain ⟨p0,p1⟩:=HP2.out W hW;go_light;go_simp;rfl
   simp only[Pu]
   refine rv ?_;simp only[Pu]
   refine r_nil ?_
   intro w6 g6
   have HG6:=Lib.hid (HGR.out.trans g6)
   clear g6
   go_wp2
   go_roundw
   case rel=>exact ⟨q+1,by omega,by go_num,HG6.out⟩
   case measure=>simp[intOf];omega
  ·
   have hqe:q=ps.length:=by omega
   have hlti:¬(q:Int)<(ps.length:Int):=by omega
   have HGR:=Lib.hid ((HG.out.trans H4.out.1).trans hgr)
   clear hgr
   go_wp2
   go_ret
   exact ⟨rfl,⟨false,HP.out _ HGR.out⟩,Kp.of_gr _ HGR.out⟩
theorem act_crt {F P M X:Nat} {R R2:Option Nat} {n:Nat} {room:Int} {D:Option (List UInt8)} (ag xf:Int) (B:Option Addr) (hn hc:Nat) (now frm unt ix:Int) (A:Option Addr) (c:Nat) (L:List (Int×Int)) (w:World) (h:Par w F P M X R R2 n n room D D) (er:Int)
  (hc1:∀W,Gr w W→Calls Tryz.prog 11 #[.pointer (some ⟨F,0,none⟩), .string nmA, .agg #[.int .i64 ag, .int .i64 xf, .slice B hn hc]] W fun e w'=>e= .returned (.int .i64 er)∧Gr W w')
  (hc2:∀W,Gr w W→Calls Tryz.prog 12 #[.pointer (some ⟨X,0,none⟩), .string nmA, .agg #[.int .i64 ag, .int .i64 xf, .slice B hn hc]] W fun e w'=>e= .returned (.int .i64 er)∧Gr W w') :
  Calls Tryz.prog 13 #[.pointer (some ⟨F,0,none⟩), .pointer (some ⟨X,0,none⟩), .agg #[.int .i64 ag, .int .i64 xf, .slice B hn hc], .agg #[.int .i64 4, .int .i64 now, .int .i64 frm, .int .i64 unt, .int .i64 ix, .slice A L.length c]] w (RetAc F P M X R R2 n room D w):=by
 obtain ⟨V1,hV1⟩:∃V1,V1=w.alloc (.cells #[.int .i64 ag, .int .i64 xf, .slice B hn hc] 24):=⟨_,rfl⟩
 have g1:Gr w V1:=by rw[hV1];exact Gr.alloc (Gr.refl w) _
 have hb1:V1.heap.size=w.heap.size+1:=by rw[hV1];simp
 obtain ⟨V2,hV2⟩:∃V2,V2=V1.alloc (.cells #[.int .i64 4, .int .i64 now, .int .i64 frm, .int .i64 unt, .int .i64 ix, .slice A L.length c] 40):=⟨_,rfl⟩
 have g2:Gr V1 V2:=by rw[hV2];exact Gr.alloc (Gr.refl V1) _
 have zb:w.heap.size+1<V2.heap.size:=by rw[hV2,←hb1];simp
 have d0:V2.cell? ⟨w.heap.size+1,0,none⟩=some (.int .i64 4):=by rw[hV2,←hb1];go_simp
 have d1:V2.cell? ⟨w.heap.size+1,1,none⟩=some (.int .i64 now):=by rw[hV2,←hb1];go_simp
 have d2:V2.cell? ⟨w.heap.size+1,2,none⟩=some (.int .i64 frm):=by rw[hV2,←hb1];go_simp
 have d3:V2.cell? ⟨w.heap.size+1,3,none⟩=some (.int .i64 unt):=by rw[hV2,←hb1];go_simp
 have d4:V2.cell? ⟨w.heap.size+1,4,none⟩=some (.int .i64 ix):=by rw[hV2,←hb1];go_simp
 have d5:V2.cell? ⟨w.heap.size+1,5,none⟩=some (.slice A L.length c):=by rw[hV2,←hb1];go_simp
 have b0:V2.cell? ⟨w.heap.size,0,none⟩=some (.int .i64 ag):=by rw[hV2,hV1];go_simp
 have b1:V2.cell? ⟨w.heap.size,1,none⟩=some (.int .i64 xf):=by rw[hV2,hV1];go_simp
 have b2:V2.cell? ⟨w.heap.size,2,none⟩=some (.slice B hn hc):=by rw[hV2,hV1];go_simp
 have zh:w.heap.size<V2.heap.size:=by omega
 have HK:Hid (∀(S:Nat→Prop) W,Kp S V2 W→¬S (w.heap.size+1)→∀i,W.cell? ⟨w.heap.size+1,i,none⟩=V2.cell? ⟨w.heap.size+1,i,none⟩):=Lib.hid fun S W k hn i=>k.cell (a:=⟨w.heap.size+1,i,none⟩) zb hn
 have HG:=Lib.hid (g1.trans g2)
 rw[hV1] at hV2
 have HV:=Lib.hid hV2
 clear hV1 hV2 g1 g2 hb1
 have HP:=Lib.hid (fun W (g:Gr w W)=>h.gr g)
 have HC1:=Lib.hid hc1
 have HC2:=Lib.hid hc2
 clear h hc1 hc2 HK
 go_enter Tryz.func13,Tryz.ntmps13
 go_upto_region 1 with (fail)
 rw[←HV.out]
 clear HV
 go_upto_region 21 with (fail)
 clear d0 d1 d2 d3 d4 d5
 refine region_R (by kernel_rfl) (by kernel_rfl) ?_
 refine rv ?_;simp only[Pu]
 refine r_val (v:=?qv2) (by kernel_rfl) (fun W hW=>?qh2) ?qr2
 case qh2=>have e0:=(Below.cell hW (p:=⟨w.heap.size,0,none⟩) zh).trans b0;have e1:=(Below.cell hW (p:=⟨w.heap.size,1,none⟩) zh).trans b1;have e2:=(Below.cell hW (p:=⟨w.heap.size,2,none⟩) zh).trans b2;go_light;go_simp;rfl
 simp only[Pu]
 refine r_call (v:= .int .i64 er) (f:=?qf3) (args:=?qa3) (by kernel_rfl) (fun W hW=>?qh3) (fun W hW=>?qc3) ?qr3
 case qh3=>go_light;go_simp;constructor<;>rfl
 case qc3=>exact (HC1.out W (HG.out.trans hW)).mono (fun e w' h=>⟨h.1,Gr.trans hW h.2⟩)
 simp only[Pu]
 refine rv ?_;simp only[Pu]
 refine r_val (v:=?qv5) (by kernel_rfl) (fun W hW=>?qh5) ?qr5
 case qh5=>have e0:=(Below.cell hW (p:=⟨w.heap.size,0,none⟩) zh).trans b0;have e1:=(Below.cell hW (p:=⟨w.heap.size,1,none⟩) zh).trans b1;have e2:=(Below.cell hW (p:=⟨w.heap.size,2,none⟩) zh).trans b2;go_light;go_simp;rfl
 simp only[Pu]
 refine r_call (v:= .int .i64 er) (f:=?qf6) (args:=?qa6) (by kernel_rfl) (fun W hW=>?qh6) (fun W hW=>?qc6) ?qr6
 case qh6=>go_light;go_simp;constructor<;>rfl
 case qc6=>exact (HC2.out W (HG.out.trans hW)).mono (fun e w' h=>⟨h.1,Gr.trans hW h.2⟩)
 simp only[Pu]
 iterate 2 (refine rv ?_;simp only[Pu])
 refine r_nil ?_
 intro w6 g6
 have HG6:=Lib.hid (HG.out.trans g6)
 clear g6 b0 b1 b2
 go_wp2
 go_ret
 exact ⟨by simp,⟨false,HP.out _ HG6.out⟩,Kp.of_gr _ HG6.out⟩
theorem act_else {F P M X:Nat} {R R2:Option Nat} {n:Nat} {room:Int} {D:Option (List UInt8)} (kd:Int) (k1:kd≠1) (k2:kd≠2) (k3:kd≠3) (k4:kd≠4) (ag xf:Int) (B:Option Addr) (hn hc:Nat) (now frm unt ix:Int) (A:Option Addr) (c:Nat) (L:List (Int×Int)) (w:World) (h:Par w F P M X R R2 n n room D D) :
  Calls Tryz.prog 13 #[.pointer (some ⟨F,0,none⟩), .pointer (some ⟨X,0,none⟩), .agg #[.int .i64 ag, .int .i64 xf, .slice B hn hc], .agg #[.int .i64 kd, .int .i64 now, .int .i64 frm, .int .i64 unt, .int .i64 ix, .slice A L.length c]] w (RetAc F P M X R R2 n room D w):=by
 obtain ⟨V1,hV1⟩:∃V1,V1=w.alloc (.cells #[.int .i64 ag, .int .i64 xf, .slice B hn hc] 24):=⟨_,rfl⟩
 have g1:Gr w V1:=by rw[hV1];exact Gr.alloc (Gr.refl w) _
 have hb1:V1.heap.size=w.heap.size+1:=by rw[hV1];simp
 obtain ⟨V2,hV2⟩:∃V2,V2=V1.alloc (.cells #[.int .i64 kd, .int .i64 now, .int .i64 frm, .int .i64 unt, .int .i64 ix, .slice A L.length c] 40):=⟨_,rfl⟩
 have g2:Gr V1 V2:=by rw[hV2];exact Gr.alloc (Gr.refl V1) _
 have zb:w.heap.size+1<V2.heap.size:=by rw[hV2,←hb1];simp
 have d0:V2.cell? ⟨w.heap.size+1,0,none⟩=some (.int .i64 kd):=by rw[hV2,←hb1];go_simp
 have d1:V2.cell? ⟨w.heap.size+1,1,none⟩=some (.int .i64 now):=by rw[hV2,←hb1];go_simp
 have d2:V2.cell? ⟨w.heap.size+1,2,none⟩=some (.int .i64 frm):=by rw[hV2,←hb1];go_simp
 have d3:V2.cell? ⟨w.heap.size+1,3,none⟩=some (.int .i64 unt):=by rw[hV2,←hb1];go_simp
 have d4:V2.cell? ⟨w.heap.size+1,4,none⟩=some (.int .i64 ix):=by rw[hV2,←hb1];go_simp
 have d5:V2.cell? ⟨w.heap.size+1,5,none⟩=some (.slice A L.length c):=by rw[hV2,←hb1];go_simp
 have HK:Hid (∀(S:Nat→Prop) W,Kp S V2 W→¬S (w.heap.size+1)→∀i,W.cell? ⟨w.heap.size+1,i,none⟩=V2.cell? ⟨w.heap.size+1,i,none⟩):=Lib.hid fun S W k hn i=>k.cell (a:=⟨w.heap.size+1,i,none⟩) zb hn
 have HG:=Lib.hid (g1.trans g2)
 rw[hV1] at hV2
 have HV:=Lib.hid hV2
 clear hV1 hV2 g1 g2 hb1
 have HP:=Lib.hid (fun W (g:Gr w W)=>h.gr g)
 have q1:(kd==1)=false:=beq_eq_false_iff_ne.2 k1
 have q2:(kd==2)=false:=beq_eq_false_iff_ne.2 k2
 have q3:(kd==3)=false:=beq_eq_false_iff_ne.2 k3
 have q4:(kd==4)=false:=beq_eq_false_iff_ne.2 k4
 clear h HK
 go_enter Tryz.func13,Tryz.ntmps13
 go_upto_region 1 with (fail)
 rw[←HV.out]
 clear HV
 go_wp2
 go_ret
 exact ⟨rfl,⟨false,HP.out _ HG.out⟩,Kp.of_gr _ HG.out⟩
structure Actt where
 kd:Int
 now:Int
 frm:Int
 unt:Int
 ix:Int
 pa:Option Addr
 np:Nat
 pc:Nat
def Rac (w:World) (A:Option Addr) (l:List Actt):Prop:=0<l.length→∃ad,A=some ad∧ad.block<w.heap.size∧∀k (h:k<l.length),w.cell? (ad.add (k*6))=some (.int .i64 l[k].kd)∧w.cell? ⟨(ad.add (k*6)).block,(ad.add (k*6)).off+1,none⟩=some (.int .i64 l[k].now)∧w.cell? ⟨(ad.add (k*6)).block,(ad.add (k*6)).off+2,none⟩=some (.int .i64 l[k].frm)∧w.cell? ⟨(ad.add (k*6)).block,(ad.add (k*6)).off+3,none⟩=some (.int .i64 l[k].unt)∧w.cell? ⟨(ad.add (k*6)).block,(ad.add (k*6)).off+4,none⟩=some (.int .i64 l[k].ix)∧w.cell? ⟨(ad.add (k*6)).block,(ad.add (k*6)).off+5,none⟩=some (.slice l[k].pa l[k].np l[k].pc)
theorem cnt_small {m:Arcs} (h:MayF m) {i:Nat} (hi:i<m.length):cntS m i≤87381:=by
 have h1:=ring_in h hi (k:=cntS m i-1) (by have:=(h.c1 i hi).1;omega)
 have h2:=h.sz
 have h3:=(h.c1 i hi).1
 omega
theorem rin_small {D:Option (List UInt8)} {i:Int}:(rinR D i).1.length≤100000000:=by
 unfold rinR
 cases D with
 | none=>simp
 | some l=>
  cases ho:opS l with
  | none=>simp[ho]
  | some p=>
   obtain ⟨ag,xf,m⟩:=p
   simp only[ho]
   by_cases hi:0≤i∧i<m.length
   ·
    rw[if_pos hi]
    have hF:=MayF.ofH (opS_of ho).2.2
    have:=cnt_small hF (i:=i.toNat) (by omega)
    simp only[ringS,List.length_map,List.length_range]
    omega
   ·
    rw[if_neg hi];simp
theorem which_le {m:Arcs} (h1:1≤m.length) {d:Int} (hd:d≤(spanS m:Nat)):d≤(stpS m (whichS m d):Int)*cntS m (whichS m d):=by
 obtain ⟨i,hi⟩:∃i,i=whichS m d:=⟨_,rfl⟩
 rw[←hi]
 by_cases hlt:i<(m.take (m.length-1)).length
 ·
  unfold whichS at hi
  have h2:=List.findIdx_getElem (xs:=m.take (m.length-1)) (p:=fun a=>decide (d≤(a.1:Int)*a.2)) (w:=by rw[←hi];exact hlt)
  have h3:=of_decide_eq_true h2
  rw[List.getElem_take] at h3
  rw[List.length_take] at hlt
  simp only[←hi] at h3
  rw[stpS_at (by omega),cntS_at (by omega)]
  exact h3
 ·
  have hle:i≤(m.take (m.length-1)).length:=by rw[hi];exact List.findIdx_le_length
  have hm:i=m.length-1:=by rw[List.length_take] at hlt hle;omega
  rw[hm,span_last h1]
  exact hd
theorem many_small {m:Arcs} (hF:MayF m) {now frm unt:Int} (h2:frm≤now) (h0:0≤now) (h3:0≤unt):manyS m (whichS m (now-frS m now frm)) (frS m now frm) (min unt now)≤87383:=by
 have hd:now-frS m now frm≤(spanS m:Nat):=by unfold frS;omega
 have hf0:0≤frS m now frm:=by unfold frS;omega
 have hw:=which_le hF.l1 hd
 have hi:=whichS_lt hF.l1 (now-frS m now frm)
 obtain ⟨i,hie⟩:∃i,i=whichS m (now-frS m now frm):=⟨_,rfl⟩
 obtain ⟨fr,hfr⟩:∃fr,fr=frS m now frm:=⟨_,rfl⟩
 rw[←hie] at hw hi ⊢
 rw[←hfr] at hw hf0 ⊢
 have hc:=cnt_small hF hi
 have hs:=(hF.s1 i hi).1
 obtain ⟨hm1,hm2⟩:=many_eq (m:=m) (i:=i) hs hf0 (show 0≤min unt now by omega)
 obtain ⟨N,hN⟩:∃N,N=manyS m i fr (min unt now):=⟨_,rfl⟩
 rw[←hN] at hm1 ⊢
 have e1:=align_facts (t:=min unt now+stpS m i) (step:=(stpS m i:Int)) (by omega) (by omega)
 have e2:fr+1≤startS m i fr:=by
  unfold startS
  rw[alignS_of (by omega) (by omega)]
  have:=Int.emod_lt_of_pos (fr+stpS m i) (show (0:Int)<stpS m i by omega)
  omega
 have e3:endW m i fr (min unt now)=max (alignS (min unt now+stpS m i) (stpS m i)) (startS m i fr+stpS m i):=rfl
 obtain ⟨S,hS⟩:∃S:Nat,S=stpS m i:=⟨_,rfl⟩
 obtain ⟨C,hC⟩:∃C:Nat,C=cntS m i:=⟨_,rfl⟩
 rw[←hS] at hm1 e1 e3 hw hs
 rw[←hC] at hw hc
 have h9:(N:Int)*S≤(C:Int)*S+S:=by
  have hw2:now-fr≤(C:Int)*S:=by rw[Int.mul_comm];exact hw
  have hC0:0≤(C:Int)*S:=Int.mul_nonneg (by omega) (by omega)
  omega
 have h10:(N:Int)*S≤((C:Int)+1)*S:=by rw[Int.add_mul,Int.one_mul];exact h9
 have h11:=Int.le_of_mul_le_mul_right h10 (by omega)
 omega
theorem fet_small {D:Option (List UInt8)} {now frm unt:Int}:(fetR D now frm unt).2.1.length≤1000000:=by
 unfold fetR
 cases D with
 | none=>simp
 | some l=>
  cases ho:opS l with
  | none=>simp[ho]
  | some p=>
   obtain ⟨ag,xf,m⟩:=p
   simp only[ho]
   by_cases hn:1≤now∧now≤4294967295
   ·
    rw[if_pos hn]
    by_cases hk:frm≤unt∧frm≤now∧0≤unt∧now-spanS m≤unt
    ·
     rw[if_pos hk]
     have hF:=MayF.ofH (opS_of ho).2.2
     have:=many_small hF (now:=now) (frm:=frm) (unt:=unt) hk.2.1 (by omega) hk.2.2.1
     simp only[fetV,valsS,List.length_map,List.length_range]
     omega
    ·
     rw[if_neg hk];simp
   ·
    rw[if_neg hn];simp
end Go.Proofs.YtoncapkmaeghfaaGreat
