import Derived.Test.YtnphdacibageiaaGreatRunRxCls
import Derived.Test.YtnphdacibageiaaGreatRunFpLawA
set_option linter.all false
set_option maxRecDepth 1000000
set_option maxHeartbeats 12800000
namespace Go.Proofs.YtnphdacibageiaaGreat
open Go.RowKit
theorem Rdr.setGroups {w:World} {R n:Nat} {s:ByteArray} {q:Rs} (h:Rdr w R s n q) (g:Nat):Rdr (w.setCell ⟨R,2,none⟩ (.int .i64 g)) R s n {q with groups:=g}:=by
 refine ⟨h.len,h.rest,?_,?_,?_,?_,?_,?_,?_,?_,?_,?_,?_,?_⟩
 ·
  exact (World.cell?_setCell_other w ⟨R,2,none⟩ ⟨R,0,none⟩ _ (by simp)).trans h.c0
 ·
  exact (World.cell?_setCell_other w ⟨R,2,none⟩ ⟨R,1,none⟩ _ (by simp)).trans h.c1
 ·
  have:=h.c2;have:=h.f2;go_simp
 ·
  exact (World.cell?_setCell_other w ⟨R,2,none⟩ ⟨R,3,none⟩ _ (by simp)).trans h.c3
 ·
  exact (World.cell?_setCell_other w ⟨R,2,none⟩ ⟨R,4,none⟩ _ (by simp)).trans h.c4
 ·
  exact (World.cell?_setCell_other w ⟨R,2,none⟩ ⟨R,5,none⟩ _ (by simp)).trans h.c5
 ·
  exact (by simp:(w.setCell ⟨R,2,none⟩ _).frozen? ⟨R,1,none⟩=w.frozen? ⟨R,1,none⟩).trans h.f1
 ·
  exact (by simp:(w.setCell ⟨R,2,none⟩ _).frozen? ⟨R,2,none⟩=w.frozen? ⟨R,2,none⟩).trans h.f2
 ·
  exact (by simp:(w.setCell ⟨R,2,none⟩ _).frozen? ⟨R,3,none⟩=w.frozen? ⟨R,3,none⟩).trans h.f3
 ·
  exact (by simp:(w.setCell ⟨R,2,none⟩ _).frozen? ⟨R,4,none⟩=w.frozen? ⟨R,4,none⟩).trans h.f4
 ·
  exact (by simp:(w.setCell ⟨R,2,none⟩ _).frozen? ⟨R,5,none⟩=w.frozen? ⟨R,5,none⟩).trans h.f5
 ·
  simpa using h.lt
theorem Rdr.setDeep {w:World} {R n:Nat} {s:ByteArray} {q:Rs} (h:Rdr w R s n q) (g:Nat):Rdr (w.setCell ⟨R,3,none⟩ (.int .i64 g)) R s n {q with deep:=g}:=by
 refine ⟨h.len,h.rest,?_,?_,?_,?_,?_,?_,?_,?_,?_,?_,?_,?_⟩
 ·
  exact (World.cell?_setCell_other w ⟨R,3,none⟩ ⟨R,0,none⟩ _ (by simp)).trans h.c0
 ·
  exact (World.cell?_setCell_other w ⟨R,3,none⟩ ⟨R,1,none⟩ _ (by simp)).trans h.c1
 ·
  exact (World.cell?_setCell_other w ⟨R,3,none⟩ ⟨R,2,none⟩ _ (by simp)).trans h.c2
 ·
  have:=h.c3;have:=h.f3;go_simp
 ·
  exact (World.cell?_setCell_other w ⟨R,3,none⟩ ⟨R,4,none⟩ _ (by simp)).trans h.c4
 ·
  exact (World.cell?_setCell_other w ⟨R,3,none⟩ ⟨R,5,none⟩ _ (by simp)).trans h.c5
 ·
  exact (by simp:(w.setCell ⟨R,3,none⟩ _).frozen? ⟨R,1,none⟩=w.frozen? ⟨R,1,none⟩).trans h.f1
 ·
  exact (by simp:(w.setCell ⟨R,3,none⟩ _).frozen? ⟨R,2,none⟩=w.frozen? ⟨R,2,none⟩).trans h.f2
 ·
  exact (by simp:(w.setCell ⟨R,3,none⟩ _).frozen? ⟨R,3,none⟩=w.frozen? ⟨R,3,none⟩).trans h.f3
 ·
  exact (by simp:(w.setCell ⟨R,3,none⟩ _).frozen? ⟨R,4,none⟩=w.frozen? ⟨R,4,none⟩).trans h.f4
 ·
  exact (by simp:(w.setCell ⟨R,3,none⟩ _).frozen? ⟨R,5,none⟩=w.frozen? ⟨R,5,none⟩).trans h.f5
 ·
  simpa using h.lt
theorem Rdr.setBad {w:World} {R n:Nat} {s:ByteArray} {q:Rs} (h:Rdr w R s n q):Rdr (w.setCell ⟨R,4,none⟩ (.bool true)) R s n {q with bad:=true}:=by
 refine ⟨h.len,h.rest,?_,?_,?_,?_,?_,?_,?_,?_,?_,?_,?_,?_⟩
 ·
  exact (World.cell?_setCell_other w ⟨R,4,none⟩ ⟨R,0,none⟩ _ (by simp)).trans h.c0
 ·
  exact (World.cell?_setCell_other w ⟨R,4,none⟩ ⟨R,1,none⟩ _ (by simp)).trans h.c1
 ·
  exact (World.cell?_setCell_other w ⟨R,4,none⟩ ⟨R,2,none⟩ _ (by simp)).trans h.c2
 ·
  exact (World.cell?_setCell_other w ⟨R,4,none⟩ ⟨R,3,none⟩ _ (by simp)).trans h.c3
 ·
  have:=h.c4;have:=h.f4;go_simp
 ·
  exact (World.cell?_setCell_other w ⟨R,4,none⟩ ⟨R,5,none⟩ _ (by simp)).trans h.c5
 ·
  exact (by simp:(w.setCell ⟨R,4,none⟩ _).frozen? ⟨R,1,none⟩=w.frozen? ⟨R,1,none⟩).trans h.f1
 ·
  exact (by simp:(w.setCell ⟨R,4,none⟩ _).frozen? ⟨R,2,none⟩=w.frozen? ⟨R,2,none⟩).trans h.f2
 ·
  exact (by simp:(w.setCell ⟨R,4,none⟩ _).frozen? ⟨R,3,none⟩=w.frozen? ⟨R,3,none⟩).trans h.f3
 ·
  exact (by simp:(w.setCell ⟨R,4,none⟩ _).frozen? ⟨R,4,none⟩=w.frozen? ⟨R,4,none⟩).trans h.f4
 ·
  exact (by simp:(w.setCell ⟨R,4,none⟩ _).frozen? ⟨R,5,none⟩=w.frozen? ⟨R,5,none⟩).trans h.f5
 ·
  simpa using h.lt
theorem Rdr.setOver {w:World} {R n:Nat} {s:ByteArray} {q:Rs} (h:Rdr w R s n q):Rdr (w.setCell ⟨R,5,none⟩ (.bool true)) R s n {q with over:=true}:=by
 refine ⟨h.len,h.rest,?_,?_,?_,?_,?_,?_,?_,?_,?_,?_,?_,?_⟩
 ·
  exact (World.cell?_setCell_other w ⟨R,5,none⟩ ⟨R,0,none⟩ _ (by simp)).trans h.c0
 ·
  exact (World.cell?_setCell_other w ⟨R,5,none⟩ ⟨R,1,none⟩ _ (by simp)).trans h.c1
 ·
  exact (World.cell?_setCell_other w ⟨R,5,none⟩ ⟨R,2,none⟩ _ (by simp)).trans h.c2
 ·
  exact (World.cell?_setCell_other w ⟨R,5,none⟩ ⟨R,3,none⟩ _ (by simp)).trans h.c3
 ·
  exact (World.cell?_setCell_other w ⟨R,5,none⟩ ⟨R,4,none⟩ _ (by simp)).trans h.c4
 ·
  have:=h.c5;have:=h.f5;go_simp
 ·
  exact (by simp:(w.setCell ⟨R,5,none⟩ _).frozen? ⟨R,1,none⟩=w.frozen? ⟨R,1,none⟩).trans h.f1
 ·
  exact (by simp:(w.setCell ⟨R,5,none⟩ _).frozen? ⟨R,2,none⟩=w.frozen? ⟨R,2,none⟩).trans h.f2
 ·
  exact (by simp:(w.setCell ⟨R,5,none⟩ _).frozen? ⟨R,3,none⟩=w.frozen? ⟨R,3,none⟩).trans h.f3
 ·
  exact (by simp:(w.setCell ⟨R,5,none⟩ _).frozen? ⟨R,4,none⟩=w.frozen? ⟨R,4,none⟩).trans h.f4
 ·
  exact (by simp:(w.setCell ⟨R,5,none⟩ _).frozen? ⟨R,5,none⟩=w.frozen? ⟨R,5,none⟩).trans h.f5
 ·
  simpa using h.lt
def RetP (R:Nat) (s:ByteArray) (w:World) (p:Pc) (q:Rs) (e:Ending) (w':World):Prop:=
 ∃(b n:Nat),e= .returned (.pointer (some ⟨b,0,none⟩))∧p.In (w.heap.size-1) w'.heap.size w' b∧GX R w w'∧Rdr w' R s n q
theorem node_new (w:World) (op g:Nat) (ps:List UInt8) (kids:Value) (z:Bool):Node (w.alloc (.cells #[.int .i64 op, .string ⟨ps.toArray⟩,kids, .int .i64 g, .bool z] 112)) w.heap.size op ps kids g z:=by
 refine ⟨?_,?_,?_,?_,?_⟩
 all_goals go_simp
theorem rkn_nil (lo hi:Nat) (w:World):Rkn lo hi w (.slice none 0 0) []:=⟨none,0,rfl,Rd.nil _ _ _,fun h=>absurd h (by simp)⟩
theorem RetP.leaf {R n:Nat} {s:ByteArray} {w w1:World} {q:Rs} (x:GX R w w1) (h:Rdr w1 R s n q) (op:Nat) (ps:List UInt8) :
  RetP R s w (.leaf op ps) q (.returned (.pointer (some ⟨w1.heap.size,0,none⟩))) (w1.alloc (.cells #[.int .i64 op, .string ⟨ps.toArray⟩, .slice none 0 0, .int .i64 0, .bool false] 112)):=by
 refine ⟨_,n,rfl,?_,x.alloc _,h.gr (Gr.alloc (Gr.refl _) _)⟩
 simp only[Pc.In]
 have:=x.size
 have:=h.lt
 exact ⟨by omega,by simp,node_new w1 op 0 ps _ false⟩
theorem RetP.row0 {R n:Nat} {s:ByteArray} {w w1:World} {q:Rs} (x:GX R w w1) (hR:R<w.heap.size) (h:Rdr w1 R s n q) :
  RetP R s w (.row .nil) q (.returned (.pointer (some ⟨w1.heap.size,0,none⟩))) (w1.alloc (.cells #[.int .i64 10, .string ⟨#[]⟩, .slice none 0 0, .int .i64 0, .bool false] 112)):=by
 refine ⟨_,n,rfl,?_,x.alloc _,h.gr (Gr.alloc (Gr.refl _) _)⟩
 simp only[Pc.In]
 have:=x.size
 exact ⟨by omega,by simp,_,[],node_new w1 10 0 [] _ false,rkn_nil _ _ _,rfl⟩
theorem fail_any {w:World} {R n:Nat} {s:ByteArray} {q:Rs} (h:Rdr w R s n q) :
  Calls Tryz.prog 143 #[.pointer (some ⟨R,0,none⟩)] w (RetP R s w (failS q).1 (failS q).2):=by
 have hx:=RetP.row0 (GX.setCell (p:=⟨R,4,none⟩) (GX.refl R w) (.inl rfl) (.bool true)) h.lt h.setBad
 have Hx:=Lib.hid hx
 obtain ⟨c4,f4⟩:=And.intro h.c4 h.f4
 have hz:=h.lt
 clear hx h
 go_enter Tryz.func143,Tryz.ntmps143
 go_wp2
 go_ret
 have h2:=Hx.out
 unfold failS
 simp at h2 ⊢
 exact h2
section
open Go.RowKit
structure Gd (b:Nat) (s t:Rs):Prop where
 r:t.rest.length≤s.rest.length
 g:t.groups+t.rest.length≤s.groups+s.rest.length+b
 d:t.deep+t.rest.length≤s.deep+s.rest.length+b
 m:s.bad=true→t.bad=true
 e:t.bad=false→t.deep=s.deep
theorem Gd.refl (s:Rs):Gd 0 s s:=⟨Nat.le_refl _,Nat.le_refl _,Nat.le_refl _,id,fun _=>rfl⟩
theorem Gd.trans {s t u:Rs} (h:Gd 0 s t) (k:Gd 0 t u):Gd 0 s u:=by
 obtain ⟨h1,h2,h3,h4,h5⟩:=h
 obtain ⟨k1,k2,k3,k4,k5⟩:=k
 refine ⟨by omega,by omega,by omega,fun x=>k4 (h4 x),fun x=>?_⟩
 have hb:t.bad=false:=by cases e:t.bad with|false=>rfl|true=>rw[k4 e] at x;cases x
 rw[k5 x,h5 hb]
theorem Gd.fail {b:Nat} {s t:Rs} (h:Gd b s t):Gd b s (failS t).2:=⟨h.r,h.g,h.d,fun _=>rfl,fun x=>by cases x⟩
theorem Gd.rest {s:Rs} {r:List UInt8} (h:r.length≤s.rest.length):Gd 0 s {s with rest:=r}:=⟨h,by show s.groups+r.length≤_;omega,by show s.deep+r.length≤_;omega,id,fun _=>rfl⟩
theorem escS_len (r:List UInt8):(escS r).2.length≤r.length:=by
 cases r with
 | nil=>exact Nat.le_refl _
 | cons c r=>unfold escS;simp only;generalize namedB c.toNat=o;cases o<;>simp
theorem sideS_len (r:List UInt8):(sideS r).2.length≤r.length:=by
 cases r with
 | nil=>exact Nat.le_refl _
 | cons c r=>
  unfold sideS
  cases hb:(c.toNat==92)
  ·
   simp[hb]
  ·
   cases r with
   | nil=>simp[hb]
   | cons d q=>
    simp only[hb,cond_true]
    generalize escS (d::q)=e
    obtain ⟨_|g,u⟩:=e<;>(simp;try omega)
theorem clsS_len (k:Nat):∀(f:Bool) (a:Bs) (r:List UInt8),(clsS k f a r).2.length≤r.length:=by
 induction k with
 | zero=>intro f a r;exact Nat.le_refl _
 | succ k ih=>
  intro f a r
  unfold clsS
  cases hb:(f || !headIs 93 r)
  ·
   simp
  ·
   simp only[cond_true]
   have h1:=sideS_len r
   generalize sideS r=e at h1 ⊢
   obtain ⟨_|⟨g,x,y⟩,u⟩:=e
   ·
    exact h1
   ·
    simp only at h1 ⊢
    cases hc:(!y&&rangesS u)
    ·
     simp only[cond_false];exact Nat.le_trans (ih _ _ _) h1
    ·
     simp only[cond_true]
     have h2:=sideS_len (u.drop 1)
     have h3:(u.drop 1).length≤u.length:=by simp
     generalize sideS (u.drop 1)=e2 at h2 ⊢
     obtain ⟨_|⟨g2,x2,y2⟩,u2⟩:=e2
     ·
      simp only at h2 ⊢;omega
     ·
      simp only at h2 ⊢
      cases hd:Nat.blt x2 x
      ·
       simp only[cond_false];have:=ih false (orB a (orB g (runB x x2))) u2;omega
      ·
       simp only[cond_true];omega
theorem classS_len (r:List UInt8):(classS r).2.length≤r.length:=by
 unfold classS
 cases hb:headIs 94 r
 ·
  exact clsS_len _ _ _ _
 ·
  simp only[cond_true]
  have h1:=clsS_len r.length true noB (r.drop 1)
  have h3:(r.drop 1).length≤r.length:=by simp
  generalize clsS r.length true noB (r.drop 1)=e at h1 ⊢
  obtain ⟨_|g,u⟩:=e<;>(simp only at h1 ⊢;omega)
theorem setS_gd {s:Rs} {x:Option Bs×List UInt8} (h:x.2.length≤s.rest.length):Gd 0 s (setS s x).2:=by
 obtain ⟨_|f,q⟩:=x
 ·
  exact (Gd.rest h).fail
 ·
  exact Gd.rest h
theorem openS_gd (s:Rs):(openS s).2.rest.length≤s.rest.length∧(openS s).2.groups+(openS s).2.rest.length≤s.groups+s.rest.length+1∧(openS s).2.deep=s.deep∧(openS s).2.bad=s.bad:=by
 unfold openS
 cases (headIs 63 s.rest&&headIs 58 (s.rest.drop 1))
 ·
  simp;omega
 ·
  simp;omega
variable {W:Rs→Pc×Rs} (hW:∀s,Gd 0 s (W s).2)
include hW
theorem groupS_gd (s:Rs):Gd 1 s (groupS W s).2:=by
 unfold groupS
 cases hb:Nat.ble 64 s.deep
 ·
  simp only[cond_false]
  obtain ⟨o1,o2,o3,o4⟩:=openS_gd {s with deep:=s.deep+1}
  obtain ⟨h1,h2,h3,h4,h5⟩:=hW (openS {s with deep:=s.deep+1}).2
  simp only at o1 o2 o3 o4
  generalize (openS {s with deep:=s.deep+1}).2=o at *
  generalize W o=t at *
  cases hc:(t.2.bad || !headIs 41 t.2.rest)
  ·
   simp only[cond_false]
   have htb:t.2.bad=false:=by cases e:t.2.bad with|false=>rfl|true=>rw[e] at hc;cases hc
   have hd:=h5 htb
   refine ⟨?_,?_,?_,?_,?_⟩
   ·
    simp;omega
   ·
    simp;omega
   ·
    simp;omega
   ·
    intro x;exact h4 (o4.trans x)
   ·
    intro _;simp;omega
  ·
   simp only[cond_true]
   refine ⟨?_,?_,?_,fun _=>rfl,fun x=>by cases x⟩
   ·
    simp[failS];omega
   ·
    simp[failS];omega
   ·
    simp[failS];omega
 ·
  simp only[cond_true]
  refine ⟨?_,?_,?_,fun _=>rfl,fun x=>by cases x⟩<;>(simp[failS];try omega)
theorem atomS_gd {s:Rs} {c:UInt8} {r:List UInt8} (h:s.rest=c::r):Gd 0 s (atomS W s).2∧(atomS W s).2.rest.length≤r.length:=by
 have hl:s.rest.length=r.length+1:=by rw[h];rfl
 have h0:Gd 0 s {s with rest:=r}:=Gd.rest (by omega)
 have hx:∀x:Option Bs×List UInt8,x.2.length≤r.length→Gd 0 s (setS s x).2∧(setS s x).2.rest.length≤r.length:=fun x hx=>⟨setS_gd (by omega),by
  obtain ⟨_|f,q⟩:=x<;>exact hx⟩
 unfold atomS
 rw[h]
 simp only
 cases (c.toNat==40)
 rotate_left
 ·
  simp only[cond_true]
  obtain ⟨k1,k2,k3,k4,k5⟩:=groupS_gd hW {s with rest:=r}
  simp only at k1 k2 k3 k4 k5
  exact ⟨⟨by omega,by omega,by omega,k4,k5⟩,k1⟩
 cases (c.toNat==94)
 rotate_left
 ·
  exact ⟨h0,Nat.le_refl _⟩
 cases (c.toNat==36)
 rotate_left
 ·
  exact ⟨h0,Nat.le_refl _⟩
 cases (c.toNat==46)
 rotate_left
 ·
  exact ⟨h0,Nat.le_refl _⟩
 cases (c.toNat==91)
 rotate_left
 ·
  exact hx _ (classS_len r)
 cases (c.toNat==92)
 rotate_left
 ·
  exact hx _ (escS_len r)
 cases stopC c.toNat
 ·
  exact ⟨h0,Nat.le_refl _⟩
 ·
  exact ⟨h0.fail,Nat.le_refl _⟩
theorem pieceS_gd {s:Rs} {c:UInt8} {r:List UInt8} (h:s.rest=c::r):Gd 0 s (pieceS W s).2∧(pieceS W s).2.rest.length≤r.length:=by
 have h0:=atomS_gd hW h
 unfold pieceS
 generalize atomS W s=t at h0 ⊢
 simp only
 cases hb:t.2.bad
 ·
  simp only[cond_false]
  match e:t.2.rest with
  | []=>exact h0
  | d::q=>
   simp only
   cases repC d.toNat
   ·
    exact h0
   ·
    simp only[cond_true]
    have h1:(bif headIs 63 q then q.drop 1 else q).length≤q.length:=by cases headIs 63 q<;>simp
    have h2:q.length+1=t.2.rest.length:=by rw[e];rfl
    have h9:=Gd.rest (s:=t.2) (r:=bif headIs 63 q then q.drop 1 else q) (by omega)
    rw[hb] at h9
    exact ⟨h0.1.trans h9,by show (bif headIs 63 q then q.drop 1 else q).length≤_;omega⟩
 ·
  exact h0
theorem rowS_gd (k:Nat):∀s:Rs,Gd 0 s (rowS W k s).2:=by
 induction k with
 | zero=>intro s;exact Gd.refl s
 | succ k ih=>
  intro s
  unfold rowS
  cases hb:(s.bad||endR s.rest)
  ·
   simp only[cond_false]
   obtain ⟨c,r,hr⟩:∃c r,s.rest=c::r:=by
    match e:s.rest with
    | []=>rw[e] at hb;simp[endR] at hb
    | c::r=>exact ⟨c,r,rfl⟩
   exact (pieceS_gd hW hr).1.trans (ih _)
  ·
   exact Gd.refl s
theorem altS_gd (k:Nat):∀s:Rs,Gd 0 s (altS W k s).2:=by
 induction k with
 | zero=>intro s;exact Gd.refl s
 | succ k ih=>
  intro s
  unfold altS
  have h0:Gd 0 s (rowP W s).2:=rowS_gd hW _ s
  generalize rowP W s=t at h0 ⊢
  simp only
  cases hb:(!t.2.bad&&headIs 124 t.2.rest)
  ·
   exact h0
  ·
   simp only[cond_true]
   exact (h0.trans (Gd.rest (r:=t.2.rest.drop 1) (by simp))).trans (ih _)
omit hW in
theorem waysS_gd (n:Nat):∀s:Rs,Gd 0 s (waysS n s).2:=by
 induction n with
 | zero=>intro s;exact (Gd.refl s).fail
 | succ n ih=>intro s;exact altS_gd ih _ s
def BdX (q:Rs):Prop:=q.groups+q.rest.length≤5000∧q.deep+q.rest.length≤5000
omit hW in
theorem Gd.bd {s t:Rs} (h:Gd 0 s t) (k:BdX s):BdX t:=⟨Nat.le_trans h.g k.1,Nat.le_trans h.d k.2⟩
end
theorem RetP.from {R:Nat} {s:ByteArray} {w w2 w':World} {p:Pc} {q:Rs} {e:Ending} (x:GX R w w2) (h:RetP R s w2 p q e w'):RetP R s w p q e w':=by
 obtain ⟨b,n,he,k,y,hr⟩:=h
 have:=x.size
 exact ⟨b,n,he,Pc.In.wide (by omega) (Nat.le_refl _) _ _ k,x.trans y,hr⟩
theorem atom_group {w:World} {R n:Nat} {s:ByteArray} {q:Rs} (h:Rdr w R s n q) (hs:(s.size:Int)≤4096) {c:UInt8} {r:List UInt8} (hq:q.rest=c::r) (hc:c.toNat=40) (P:Pc) (t:Rs) (HG:∀W,Rdr W R s (n+1) {q with rest:=r}→Calls Tryz.prog 138 #[.pointer (some ⟨R,0,none⟩)] W (RetP R s W P t)) :
  Calls Tryz.prog 128 #[.pointer (some ⟨R,0,none⟩)] w (RetP R s w P t):=by
 have Q:=fun w (h:Rdr w R s n q)=>now_some h hs hq
 simp only[hc] at Q
 have hle:=h.len
 rw[hq] at hle
 simp at hle
 have hn:(n:Int)<4096:=by omega
 have hwr:=wrap_in ((n:Int)+1) (by omega) (by omega)
 clear hle
 go_enter Tryz.func128,Tryz.ntmps128
 go_upto_region 2 with (go_at_call 106;refine (Q _ h).mono ?_;rintro e w1 ⟨rfl,g1⟩)
 have h1:=h.gr g1
 obtain ⟨c1,f1⟩:=And.intro h1.c1 h1.f1
 go_upto_region 3 with (fail)
 have h2:=h1.next hq
 have x2:GX R w (w1.setCell ⟨R,1,none⟩ (.int .i64 ((n:Int)+1))):=GX.setCell (p:=⟨R,1,none⟩) (GX.of_gr (R:=R) g1) (.inl rfl) _
 clear c1 f1 h1 g1 Q hwr h hq
 generalize (w1.setCell ⟨R,1,none⟩ (.int .i64 ((n:Int)+1)))=w2 at h2 x2 ⊢
 go_wp2_with (go_at_call 138;refine (HG _ h2).mono ?_;rintro e w9 ⟨b,m9,rfl,k9,x9,h9⟩)
 go_ret
 exact RetP.from (x2) ⟨b,m9,rfl,k9,x9,h9⟩
theorem atom_begin {w:World} {R n:Nat} {s:ByteArray} {q:Rs} (h:Rdr w R s n q) (hs:(s.size:Int)≤4096) {c:UInt8} {r:List UInt8} (hq:q.rest=c::r) (hc:c.toNat=94) :
  Calls Tryz.prog 128 #[.pointer (some ⟨R,0,none⟩)] w (RetP R s w (.leaf 5 []) {q with rest:=r}):=by
 have Q:=fun w (h:Rdr w R s n q)=>now_some h hs hq
 simp only[hc] at Q
 have hle:=h.len
 rw[hq] at hle
 simp at hle
 have hn:(n:Int)<4096:=by omega
 have hwr:=wrap_in ((n:Int)+1) (by omega) (by omega)
 clear hle
 go_enter Tryz.func128,Tryz.ntmps128
 go_upto_region 2 with (go_at_call 106;refine (Q _ h).mono ?_;rintro e w1 ⟨rfl,g1⟩)
 have h1:=h.gr g1
 obtain ⟨c1,f1⟩:=And.intro h1.c1 h1.f1
 go_upto_region 3 with (fail)
 have h2:=h1.next hq
 have x2:GX R w (w1.setCell ⟨R,1,none⟩ (.int .i64 ((n:Int)+1))):=GX.setCell (p:=⟨R,1,none⟩) (GX.of_gr (R:=R) g1) (.inl rfl) _
 clear c1 f1 h1 g1 Q hwr h hq
 generalize (w1.setCell ⟨R,1,none⟩ (.int .i64 ((n:Int)+1)))=w2 at h2 x2 ⊢
 go_wp2
 go_ret
 exact RetP.leaf x2 h2 5 []
theorem atom_end {w:World} {R n:Nat} {s:ByteArray} {q:Rs} (h:Rdr w R s n q) (hs:(s.size:Int)≤4096) {c:UInt8} {r:List UInt8} (hq:q.rest=c::r) (hc:c.toNat=36) :
  Calls Tryz.prog 128 #[.pointer (some ⟨R,0,none⟩)] w (RetP R s w (.leaf 6 []) {q with rest:=r}):=by
 have Q:=fun w (h:Rdr w R s n q)=>now_some h hs hq
 simp only[hc] at Q
 have hle:=h.len
 rw[hq] at hle
 simp at hle
 have hn:(n:Int)<4096:=by omega
 have hwr:=wrap_in ((n:Int)+1) (by omega) (by omega)
 clear hle
 go_enter Tryz.func128,Tryz.ntmps128
 go_upto_region 2 with (go_at_call 106;refine (Q _ h).mono ?_;rintro e w1 ⟨rfl,g1⟩)
 have h1:=h.gr g1
 obtain ⟨c1,f1⟩:=And.intro h1.c1 h1.f1
 go_upto_region 3 with (fail)
 have h2:=h1.next hq
 have x2:GX R w (w1.setCell ⟨R,1,none⟩ (.int .i64 ((n:Int)+1))):=GX.setCell (p:=⟨R,1,none⟩) (GX.of_gr (R:=R) g1) (.inl rfl) _
 clear c1 f1 h1 g1 Q hwr h hq
 generalize (w1.setCell ⟨R,1,none⟩ (.int .i64 ((n:Int)+1)))=w2 at h2 x2 ⊢
 go_wp2
 go_ret
 exact RetP.leaf x2 h2 6 []
theorem atom_any {w:World} {R n:Nat} {s:ByteArray} {q:Rs} (h:Rdr w R s n q) (hs:(s.size:Int)≤4096) {c:UInt8} {r:List UInt8} (hq:q.rest=c::r) (hc:c.toNat=46) :
  Calls Tryz.prog 128 #[.pointer (some ⟨R,0,none⟩)] w (RetP R s w (.leaf 1 (pairsS (notB (oneB 10)))) {q with rest:=r}):=by
 have Q:=fun w (h:Rdr w R s n q)=>now_some h hs hq
 simp only[hc] at Q
 have hle:=h.len
 rw[hq] at hle
 simp at hle
 have hn:(n:Int)<4096:=by omega
 have hwr:=wrap_in ((n:Int)+1) (by omega) (by omega)
 clear hle
 go_enter Tryz.func128,Tryz.ntmps128
 go_upto_region 2 with (go_at_call 106;refine (Q _ h).mono ?_;rintro e w1 ⟨rfl,g1⟩)
 have h1:=h.gr g1
 obtain ⟨c1,f1⟩:=And.intro h1.c1 h1.f1
 go_upto_region 3 with (fail)
 have h2:=h1.next hq
 have x2:GX R w (w1.setCell ⟨R,1,none⟩ (.int .i64 ((n:Int)+1))):=GX.setCell (p:=⟨R,1,none⟩) (GX.of_gr (R:=R) g1) (.inl rfl) _
 clear c1 f1 h1 g1 Q hwr h hq
 generalize (w1.setCell ⟨R,1,none⟩ (.int .i64 ((n:Int)+1)))=w2 at h2 x2 ⊢
 go_wp2_with (first
  | (go_at_call 139;refine (one_any 10 _ (by decide)).mono ?_;rintro e w3 ⟨rfl,g3⟩)
  | (go_at_call 140;refine (not_any (oneB 10) _).mono ?_;rintro e w4 ⟨rfl,g4⟩)
  | (go_at_call 141;refine (pairs_any (notB (oneB 10)) _).mono ?_;rintro e w5 ⟨rfl,g5⟩))
 go_ret
 exact RetP.leaf (x2.trans (GX.of_gr (Gr.trans (Gr.trans g3 g4) g5))) (h2.gr (Gr.trans (Gr.trans g3 g4) g5)) 1 _
theorem atom_class {w:World} {R n:Nat} {s:ByteArray} {q:Rs} (h:Rdr w R s n q) (hs:(s.size:Int)≤4096) {c:UInt8} {r:List UInt8} (hq:q.rest=c::r) (hc:c.toNat=91) (Z:Option Bs×List UInt8) (hZ:classS r=Z) :
  Calls Tryz.prog 128 #[.pointer (some ⟨R,0,none⟩)] w (RetP R s w (setS q Z).1 (setS q Z).2):=by
 have Q:=fun w (h:Rdr w R s n q)=>now_some h hs hq
 simp only[hc] at Q
 have hle:=h.len
 rw[hq] at hle
 simp at hle
 have hn:(n:Int)<4096:=by omega
 have hwr:=wrap_in ((n:Int)+1) (by omega) (by omega)
 clear hle
 go_enter Tryz.func128,Tryz.ntmps128
 go_upto_region 2 with (go_at_call 106;refine (Q _ h).mono ?_;rintro e w1 ⟨rfl,g1⟩)
 have h1:=h.gr g1
 obtain ⟨c1,f1⟩:=And.intro h1.c1 h1.f1
 go_upto_region 3 with (fail)
 have h2:=h1.next hq
 have x2:GX R w (w1.setCell ⟨R,1,none⟩ (.int .i64 ((n:Int)+1))):=GX.setCell (p:=⟨R,1,none⟩) (GX.of_gr (R:=R) g1) (.inl rfl) _
 clear c1 f1 h1 g1 Q hwr h hq
 generalize (w1.setCell ⟨R,1,none⟩ (.int .i64 ((n:Int)+1)))=w2 at h2 x2 ⊢
 obtain ⟨hz,hsz⟩:=zero_of_info info_set
 have HC:∀W,Rdr W R s (n+1) {q with rest:=r}→Calls Tryz.prog 142 #[.pointer (some ⟨R,0,none⟩)] W (RetBX R s W (classS r).1 {q with rest:=(classS r).2}):=fun W hW=>class_any hW hs
 rw[hZ] at HC
 clear hZ
 obtain ⟨_|f,u⟩:=Z
 ·
  go_upto_region 14 with (first
   | (go_at_call 142;refine (HC _ h2).mono ?_;rintro e w3 ⟨f,m3,rfl,f3,x3,h3⟩)
   | (refine wpList_store_row rfl 179 (.tmp 5) (.tmp 50) rfl (w3.heap.size) (bsA f) rfl rfl _ _ (SetAt.new w3 noB) (size_bsA _) (by simp only[bsA_size]) (bsA_one _) ?_))
  have g4:Gr w3 ((w3.alloc (.cells (bsA noB) 179)).setRow w3.heap.size (bsA f)):=Gr.setRow (Gr.alloc (Gr.refl w3) _) (g:=w3.heap.size) (Nat.le_refl _) (bsA f)
  generalize ((w3.alloc (.cells (bsA noB) 179)).setRow w3.heap.size (bsA f))=w4 at g4 ⊢
  have h4:=h3.gr g4
  go_wp2_with (go_at_call 143;refine (fail_any h4).mono ?_;rintro e w9 ⟨b,m9,rfl,k9,x9,h9⟩)
  go_ret
  exact RetP.from (x2.trans (x3.trans (GX.of_gr g4))) ⟨b,m9,rfl,k9,x9,h9⟩
 ·
  go_upto_region 14 with (first
   | (go_at_call 142;refine (HC _ h2).mono ?_;rintro e w3 ⟨f0,m3,rfl,f3,x3,h3⟩;have f3:=(f3 _ rfl).symm;subst f3)
   | (refine wpList_store_row rfl 179 (.tmp 5) (.tmp 50) rfl (w3.heap.size) (bsA f) rfl rfl _ _ (SetAt.new w3 noB) (size_bsA _) (by simp only[bsA_size]) (bsA_one _) ?_))
  have g4:Gr w3 ((w3.alloc (.cells (bsA noB) 179)).setRow w3.heap.size (bsA f)):=Gr.setRow (Gr.alloc (Gr.refl w3) _) (g:=w3.heap.size) (Nat.le_refl _) (bsA f)
  have hs4:SetAt ((w3.alloc (.cells (bsA noB) 179)).setRow w3.heap.size (bsA f)) w3.heap.size f:=SetAt.row (SetAt.new w3 noB)
  generalize ((w3.alloc (.cells (bsA noB) 179)).setRow w3.heap.size (bsA f))=w4 at g4 hs4 ⊢
  go_wp2_with (first
   | (refine wpList_load_row rfl 179 (.tmp 5) rfl (w3.heap.size) rfl _ (bsA (f)) (0,0) _ hs4 und_set rfl (size_bsA _) ?_)
   | (go_at_call 141;refine (pairs_any f _).mono ?_;rintro e w5 ⟨rfl,g5⟩))
  go_ret
  exact RetP.leaf (x2.trans (x3.trans (GX.of_gr (Gr.trans g4 g5)))) (h3.gr (Gr.trans g4 g5)) 1 _
theorem atom_esc {w:World} {R n:Nat} {s:ByteArray} {q:Rs} (h:Rdr w R s n q) (hs:(s.size:Int)≤4096) {c:UInt8} {r:List UInt8} (hq:q.rest=c::r) (hc:c.toNat=92) (Z:Option Bs×List UInt8) (hZ:escS r=Z) :
  Calls Tryz.prog 128 #[.pointer (some ⟨R,0,none⟩)] w (RetP R s w (setS q Z).1 (setS q Z).2):=by
 have Q:=fun w (h:Rdr w R s n q)=>now_some h hs hq
 simp only[hc] at Q
 have hle:=h.len
 rw[hq] at hle
 simp at hle
 have hn:(n:Int)<4096:=by omega
 have hwr:=wrap_in ((n:Int)+1) (by omega) (by omega)
 clear hle
 go_enter Tryz.func128,Tryz.ntmps128
 go_upto_region 2 with (go_at_call 106;refine (Q _ h).mono ?_;rintro e w1 ⟨rfl,g1⟩)
 have h1:=h.gr g1
 obtain ⟨c1,f1⟩:=And.intro h1.c1 h1.f1
 go_upto_region 3 with (fail)
 have h2:=h1.next hq
 have x2:GX R w (w1.setCell ⟨R,1,none⟩ (.int .i64 ((n:Int)+1))):=GX.setCell (p:=⟨R,1,none⟩) (GX.of_gr (R:=R) g1) (.inl rfl) _
 clear c1 f1 h1 g1 Q hwr h hq
 generalize (w1.setCell ⟨R,1,none⟩ (.int .i64 ((n:Int)+1)))=w2 at h2 x2 ⊢
 obtain ⟨hz,hsz⟩:=zero_of_info info_set
 have HC:∀W,Rdr W R s (n+1) {q with rest:=r}→Calls Tryz.prog 144 #[.pointer (some ⟨R,0,none⟩)] W (RetBX R s W (escS r).1 {q with rest:=(escS r).2}):=fun W hW=>esc_any hW hs
 rw[hZ] at HC
 clear hZ
 obtain ⟨_|f,u⟩:=Z
 ·
  go_upto_region 19 with (first
   | (go_at_call 144;refine (HC _ h2).mono ?_;rintro e w3 ⟨f,m3,rfl,f3,x3,h3⟩)
   | (refine wpList_store_row rfl 179 (.tmp 7) (.tmp 65) rfl (w3.heap.size) (bsA f) rfl rfl _ _ (SetAt.new w3 noB) (size_bsA _) (by simp only[bsA_size]) (bsA_one _) ?_))
  have g4:Gr w3 ((w3.alloc (.cells (bsA noB) 179)).setRow w3.heap.size (bsA f)):=Gr.setRow (Gr.alloc (Gr.refl w3) _) (g:=w3.heap.size) (Nat.le_refl _) (bsA f)
  generalize ((w3.alloc (.cells (bsA noB) 179)).setRow w3.heap.size (bsA f))=w4 at g4 ⊢
  have h4:=h3.gr g4
  go_wp2_with (go_at_call 143;refine (fail_any h4).mono ?_;rintro e w9 ⟨b,m9,rfl,k9,x9,h9⟩)
  go_ret
  exact RetP.from (x2.trans (x3.trans (GX.of_gr g4))) ⟨b,m9,rfl,k9,x9,h9⟩
 ·
  go_upto_region 19 with (first
   | (go_at_call 144;refine (HC _ h2).mono ?_;rintro e w3 ⟨f0,m3,rfl,f3,x3,h3⟩;have f3:=(f3 _ rfl).symm;subst f3)
   | (refine wpList_store_row rfl 179 (.tmp 7) (.tmp 65) rfl (w3.heap.size) (bsA f) rfl rfl _ _ (SetAt.new w3 noB) (size_bsA _) (by simp only[bsA_size]) (bsA_one _) ?_))
  have g4:Gr w3 ((w3.alloc (.cells (bsA noB) 179)).setRow w3.heap.size (bsA f)):=Gr.setRow (Gr.alloc (Gr.refl w3) _) (g:=w3.heap.size) (Nat.le_refl _) (bsA f)
  have hs4:SetAt ((w3.alloc (.cells (bsA noB) 179)).setRow w3.heap.size (bsA f)) w3.heap.size f:=SetAt.row (SetAt.new w3 noB)
  generalize ((w3.alloc (.cells (bsA noB) 179)).setRow w3.heap.size (bsA f))=w4 at g4 hs4 ⊢
  go_wp2_with (first
   | (refine wpList_load_row rfl 179 (.tmp 7) rfl (w3.heap.size) rfl _ (bsA (f)) (0,0) _ hs4 und_set rfl (size_bsA _) ?_)
   | (go_at_call 141;refine (pairs_any f _).mono ?_;rintro e w5 ⟨rfl,g5⟩))
  go_ret
  exact RetP.leaf (x2.trans (x3.trans (GX.of_gr (Gr.trans g4 g5)))) (h3.gr (Gr.trans g4 g5)) 1 _
theorem atom_stop124 {w:World} {R n:Nat} {s:ByteArray} {q:Rs} (h:Rdr w R s n q) (hs:(s.size:Int)≤4096) {c:UInt8} {r:List UInt8} (hq:q.rest=c::r) (hc:c.toNat=124) :
  Calls Tryz.prog 128 #[.pointer (some ⟨R,0,none⟩)] w (RetP R s w (failS {q with rest:=r}).1 (failS {q with rest:=r}).2):=by
 have Q:=fun w (h:Rdr w R s n q)=>now_some h hs hq
 simp only[hc] at Q
 have hle:=h.len
 rw[hq] at hle
 simp at hle
 have hn:(n:Int)<4096:=by omega
 have hwr:=wrap_in ((n:Int)+1) (by omega) (by omega)
 clear hle
 go_enter Tryz.func128,Tryz.ntmps128
 go_upto_region 2 with (go_at_call 106;refine (Q _ h).mono ?_;rintro e w1 ⟨rfl,g1⟩)
 have h1:=h.gr g1
 obtain ⟨c1,f1⟩:=And.intro h1.c1 h1.f1
 go_upto_region 3 with (fail)
 have h2:=h1.next hq
 have x2:GX R w (w1.setCell ⟨R,1,none⟩ (.int .i64 ((n:Int)+1))):=GX.setCell (p:=⟨R,1,none⟩) (GX.of_gr (R:=R) g1) (.inl rfl) _
 clear c1 f1 h1 g1 Q hwr h hq
 generalize (w1.setCell ⟨R,1,none⟩ (.int .i64 ((n:Int)+1)))=w2 at h2 x2 ⊢
 go_wp2_with (go_at_call 143;refine (fail_any h2).mono ?_;rintro e w9 ⟨b,m9,rfl,k9,x9,h9⟩)
 go_ret
 exact RetP.from (x2) ⟨b,m9,rfl,k9,x9,h9⟩
theorem atom_stop63 {w:World} {R n:Nat} {s:ByteArray} {q:Rs} (h:Rdr w R s n q) (hs:(s.size:Int)≤4096) {c:UInt8} {r:List UInt8} (hq:q.rest=c::r) (hc:c.toNat=63) :
  Calls Tryz.prog 128 #[.pointer (some ⟨R,0,none⟩)] w (RetP R s w (failS {q with rest:=r}).1 (failS {q with rest:=r}).2):=by
 have Q:=fun w (h:Rdr w R s n q)=>now_some h hs hq
 simp only[hc] at Q
 have hle:=h.len
 rw[hq] at hle
 simp at hle
 have hn:(n:Int)<4096:=by omega
 have hwr:=wrap_in ((n:Int)+1) (by omega) (by omega)
 clear hle
 go_enter Tryz.func128,Tryz.ntmps128
 go_upto_region 2 with (go_at_call 106;refine (Q _ h).mono ?_;rintro e w1 ⟨rfl,g1⟩)
 have h1:=h.gr g1
 obtain ⟨c1,f1⟩:=And.intro h1.c1 h1.f1
 go_upto_region 3 with (fail)
 have h2:=h1.next hq
 have x2:GX R w (w1.setCell ⟨R,1,none⟩ (.int .i64 ((n:Int)+1))):=GX.setCell (p:=⟨R,1,none⟩) (GX.of_gr (R:=R) g1) (.inl rfl) _
 clear c1 f1 h1 g1 Q hwr h hq
 generalize (w1.setCell ⟨R,1,none⟩ (.int .i64 ((n:Int)+1)))=w2 at h2 x2 ⊢
 go_wp2_with (go_at_call 143;refine (fail_any h2).mono ?_;rintro e w9 ⟨b,m9,rfl,k9,x9,h9⟩)
 go_ret
 exact RetP.from (x2) ⟨b,m9,rfl,k9,x9,h9⟩
theorem atom_stop42 {w:World} {R n:Nat} {s:ByteArray} {q:Rs} (h:Rdr w R s n q) (hs:(s.size:Int)≤4096) {c:UInt8} {r:List UInt8} (hq:q.rest=c::r) (hc:c.toNat=42) :
  Calls Tryz.prog 128 #[.pointer (some ⟨R,0,none⟩)] w (RetP R s w (failS {q with rest:=r}).1 (failS {q with rest:=r}).2):=by
 have Q:=fun w (h:Rdr w R s n q)=>now_some h hs hq
 simp only[hc] at Q
 have hle:=h.len
 rw[hq] at hle
 simp at hle
 have hn:(n:Int)<4096:=by omega
 have hwr:=wrap_in ((n:Int)+1) (by omega) (by omega)
 clear hle
 go_enter Tryz.func128,Tryz.ntmps128
 go_upto_region 2 with (go_at_call 106;refine (Q _ h).mono ?_;rintro e w1 ⟨rfl,g1⟩)
 have h1:=h.gr g1
 obtain ⟨c1,f1⟩:=And.intro h1.c1 h1.f1
 go_upto_region 3 with (fail)
 have h2:=h1.next hq
 have x2:GX R w (w1.setCell ⟨R,1,none⟩ (.int .i64 ((n:Int)+1))):=GX.setCell (p:=⟨R,1,none⟩) (GX.of_gr (R:=R) g1) (.inl rfl) _
 clear c1 f1 h1 g1 Q hwr h hq
 generalize (w1.setCell ⟨R,1,none⟩ (.int .i64 ((n:Int)+1)))=w2 at h2 x2 ⊢
 go_wp2_with (go_at_call 143;refine (fail_any h2).mono ?_;rintro e w9 ⟨b,m9,rfl,k9,x9,h9⟩)
 go_ret
 exact RetP.from (x2) ⟨b,m9,rfl,k9,x9,h9⟩
theorem atom_stop43 {w:World} {R n:Nat} {s:ByteArray} {q:Rs} (h:Rdr w R s n q) (hs:(s.size:Int)≤4096) {c:UInt8} {r:List UInt8} (hq:q.rest=c::r) (hc:c.toNat=43) :
  Calls Tryz.prog 128 #[.pointer (some ⟨R,0,none⟩)] w (RetP R s w (failS {q with rest:=r}).1 (failS {q with rest:=r}).2):=by
 have Q:=fun w (h:Rdr w R s n q)=>now_some h hs hq
 simp only[hc] at Q
 have hle:=h.len
 rw[hq] at hle
 simp at hle
 have hn:(n:Int)<4096:=by omega
 have hwr:=wrap_in ((n:Int)+1) (by omega) (by omega)
 clear hle
 go_enter Tryz.func128,Tryz.ntmps128
 go_upto_region 2 with (go_at_call 106;refine (Q _ h).mono ?_;rintro e w1 ⟨rfl,g1⟩)
 have h1:=h.gr g1
 obtain ⟨c1,f1⟩:=And.intro h1.c1 h1.f1
 go_upto_region 3 with (fail)
 have h2:=h1.next hq
 have x2:GX R w (w1.setCell ⟨R,1,none⟩ (.int .i64 ((n:Int)+1))):=GX.setCell (p:=⟨R,1,none⟩) (GX.of_gr (R:=R) g1) (.inl rfl) _
 clear c1 f1 h1 g1 Q hwr h hq
 generalize (w1.setCell ⟨R,1,none⟩ (.int .i64 ((n:Int)+1)))=w2 at h2 x2 ⊢
 go_wp2_with (go_at_call 143;refine (fail_any h2).mono ?_;rintro e w9 ⟨b,m9,rfl,k9,x9,h9⟩)
 go_ret
 exact RetP.from (x2) ⟨b,m9,rfl,k9,x9,h9⟩
theorem atom_stop41 {w:World} {R n:Nat} {s:ByteArray} {q:Rs} (h:Rdr w R s n q) (hs:(s.size:Int)≤4096) {c:UInt8} {r:List UInt8} (hq:q.rest=c::r) (hc:c.toNat=41) :
  Calls Tryz.prog 128 #[.pointer (some ⟨R,0,none⟩)] w (RetP R s w (failS {q with rest:=r}).1 (failS {q with rest:=r}).2):=by
 have Q:=fun w (h:Rdr w R s n q)=>now_some h hs hq
 simp only[hc] at Q
 have hle:=h.len
 rw[hq] at hle
 simp at hle
 have hn:(n:Int)<4096:=by omega
 have hwr:=wrap_in ((n:Int)+1) (by omega) (by omega)
 clear hle
 go_enter Tryz.func128,Tryz.ntmps128
 go_upto_region 2 with (go_at_call 106;refine (Q _ h).mono ?_;rintro e w1 ⟨rfl,g1⟩)
 have h1:=h.gr g1
 obtain ⟨c1,f1⟩:=And.intro h1.c1 h1.f1
 go_upto_region 3 with (fail)
 have h2:=h1.next hq
 have x2:GX R w (w1.setCell ⟨R,1,none⟩ (.int .i64 ((n:Int)+1))):=GX.setCell (p:=⟨R,1,none⟩) (GX.of_gr (R:=R) g1) (.inl rfl) _
 clear c1 f1 h1 g1 Q hwr h hq
 generalize (w1.setCell ⟨R,1,none⟩ (.int .i64 ((n:Int)+1)))=w2 at h2 x2 ⊢
 go_wp2_with (go_at_call 143;refine (fail_any h2).mono ?_;rintro e w9 ⟨b,m9,rfl,k9,x9,h9⟩)
 go_ret
 exact RetP.from (x2) ⟨b,m9,rfl,k9,x9,h9⟩
theorem atom_else {w:World} {R n:Nat} {s:ByteArray} {q:Rs} (h:Rdr w R s n q) (hs:(s.size:Int)≤4096) {c:UInt8} {r:List UInt8} (hq:q.rest=c::r) (hc:∀k∈[40,94,36,46,91,92,124,63,42,43,41],c.toNat≠k) :
  Calls Tryz.prog 128 #[.pointer (some ⟨R,0,none⟩)] w (RetP R s w (.leaf 1 (pairsS (oneB c.toNat))) {q with rest:=r}):=by
 have Q:=fun w (h:Rdr w R s n q)=>now_some h hs hq
 simp only[List.mem_cons,List.not_mem_nil,or_false,forall_eq_or_imp,forall_eq] at hc
 have k40:((c.toNat:Int)==40)=false:=beq_eq_false_iff_ne.2 (by omega)
 have k94:((c.toNat:Int)==94)=false:=beq_eq_false_iff_ne.2 (by omega)
 have k36:((c.toNat:Int)==36)=false:=beq_eq_false_iff_ne.2 (by omega)
 have k46:((c.toNat:Int)==46)=false:=beq_eq_false_iff_ne.2 (by omega)
 have k91:((c.toNat:Int)==91)=false:=beq_eq_false_iff_ne.2 (by omega)
 have k92:((c.toNat:Int)==92)=false:=beq_eq_false_iff_ne.2 (by omega)
 have k124:((c.toNat:Int)==124)=false:=beq_eq_false_iff_ne.2 (by omega)
 have k63:((c.toNat:Int)==63)=false:=beq_eq_false_iff_ne.2 (by omega)
 have k42:((c.toNat:Int)==42)=false:=beq_eq_false_iff_ne.2 (by omega)
 have k43:((c.toNat:Int)==43)=false:=beq_eq_false_iff_ne.2 (by omega)
 have k41:((c.toNat:Int)==41)=false:=beq_eq_false_iff_ne.2 (by omega)
 have hle:=h.len
 rw[hq] at hle
 simp at hle
 have hn:(n:Int)<4096:=by omega
 have hwr:=wrap_in ((n:Int)+1) (by omega) (by omega)
 clear hle
 go_enter Tryz.func128,Tryz.ntmps128
 go_upto_region 2 with (go_at_call 106;refine (Q _ h).mono ?_;rintro e w1 ⟨rfl,g1⟩)
 have h1:=h.gr g1
 obtain ⟨c1,f1⟩:=And.intro h1.c1 h1.f1
 go_upto_region 3 with (fail)
 have h2:=h1.next hq
 have x2:GX R w (w1.setCell ⟨R,1,none⟩ (.int .i64 ((n:Int)+1))):=GX.setCell (p:=⟨R,1,none⟩) (GX.of_gr (R:=R) g1) (.inl rfl) _
 clear c1 f1 h1 g1 Q hwr h hq
 generalize (w1.setCell ⟨R,1,none⟩ (.int .i64 ((n:Int)+1)))=w2 at h2 x2 ⊢
 go_wp2_with (first
  | (go_at_call 139;refine (one_any c.toNat _ c.toNat_lt).mono ?_;rintro e w3 ⟨rfl,g3⟩)
  | (go_at_call 141;refine (pairs_any (oneB c.toNat) _).mono ?_;rintro e w5 ⟨rfl,g5⟩))
 go_ret
 exact RetP.leaf (x2.trans (GX.of_gr (Gr.trans g3 g5))) (h2.gr (Gr.trans g3 g5)) 1 _
end Go.Proofs.YtnphdacibageiaaGreat
