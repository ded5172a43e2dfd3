import Derived.Test.YtjapddfnpmlifaaGreatDoorRunRxSpec
import Derived.Test.YtjapddfnpmlifaaGreatDoorRunRxCls
set_option linter.all false
set_option maxRecDepth 1000000
set_option maxHeartbeats 12800000
namespace Go.Proofs.YtjapddfnpmlifaaGreatDoor
section
open Go.RowKit
structure Gd (b:Nat) (s t:Rs):Prop where
 r:t.rest.length<=s.rest.length
 g:t.groups+t.rest.length<=s.groups+s.rest.length+b
 d:t.deep+t.rest.length<=s.deep+s.rest.length+b
 m:s.bad=true->t.bad=true
 e:t.bad=false->t.deep=s.deep
theorem Gd.refl (s:Rs):Gd 0 s s:=⟨Nat.le_refl _,Nat.le_refl _,Nat.le_refl _,id,λ_=>rfl⟩
theorem Gd.trans {s t u:Rs} (h:Gd 0 s t) (k:Gd 0 t u):Gd 0 s u:=by
 obtain ⟨h1,h2,h3,h4,h5⟩:=h;obtain ⟨k1,k2,k3,k4,k5⟩:=k;refine ⟨by omega,by omega,by omega,λx=>k4 (h4 x),λx=>?_⟩;have hb:t.bad=false:=by cases e:t.bad with|false=>rfl|true=>rw[k4 e] at x;cases x
 rw[k5 x,h5 hb]
theorem Gd.fail {b:Nat} {s t:Rs} (h:Gd b s t):Gd b s (failS t).2:=⟨h.r,h.g,h.d,λ_=>rfl,λx=>by cases x⟩
theorem Gd.rest {s:Rs} {r:List UInt8} (h:r.length<=s.rest.length):Gd 0 s {s with rest:=r}:=⟨h,by show s.groups+r.length<=_;omega,by show s.deep+r.length<=_;omega,id,λ_=>rfl⟩
theorem escS_len (r:List UInt8):(escS r).2.length<=r.length:=by
 cases r with
 | nil=>exact Nat.le_refl _
 | cons c r=>unfold escS;simp only;generalize namedB c.toNat=o;cases o<;>simp
theorem sideS_len (r:List UInt8):(sideS r).2.length<=r.length:=by
 cases r with
 | nil=>exact Nat.le_refl _
 | cons c r=>
  unfold sideS;cases hb:(c.toNat==92)
  ·simp[hb]
  ·cases r with
   | nil=>simp[hb]
   | cons d q=>
    simp only[hb,cond_true];generalize escS (d::q)=e;obtain ⟨_|g,u⟩:=e<;>(simp;try omega)
theorem clsS_len (k:Nat):∀(f:Bool) (a:Bs) (r:List UInt8),(clsS k f a r).2.length<=r.length:=by
 induction k with
 | zero=>intro f a r;exact Nat.le_refl _
 | succ k ih=>
  intro f a r;unfold clsS;cases hb:(f || !headIs 93 r)
  ·simp
  ·simp only[cond_true];have h1:=sideS_len r;generalize sideS r=e at h1 ⊢;obtain ⟨_|⟨g,x,y⟩,u⟩:=e
   ·exact h1
   ·simp only at h1 ⊢;cases hc:(!y&&rangesS u)
    ·simp only[cond_false];exact Nat.le_trans (ih _ _ _) h1
    ·simp only[cond_true];have h2:=sideS_len (u.drop 1);have h3:(u.drop 1).length<=u.length:=by simp
     generalize sideS (u.drop 1)=e2 at h2 ⊢;obtain ⟨_|⟨g2,x2,y2⟩,u2⟩:=e2
     ·simp only at h2 ⊢;omega
     ·simp only at h2 ⊢;cases hd:Nat.blt x2 x
      ·simp only[cond_false];have:=ih false (orB a (orB g (runB x x2))) u2;omega
      ·simp only[cond_true];omega
theorem classS_len (r:List UInt8):(classS r).2.length<=r.length:=by
 unfold classS;cases hb:headIs 94 r
 ·exact clsS_len _ _ _ _
 ·simp only[cond_true];have h1:=clsS_len r.length true noB (r.drop 1);have h3:(r.drop 1).length<=r.length:=by simp
  generalize clsS r.length true noB (r.drop 1)=e at h1 ⊢;obtain ⟨_|g,u⟩:=e<;>(simp only at h1 ⊢;omega)
theorem setS_gd {s:Rs} {x:Option Bs×List UInt8} (h:x.2.length<=s.rest.length):Gd 0 s (setS s x).2:=by
 obtain ⟨_|f,q⟩:=x
 ·exact (Gd.rest h).fail
 ·exact Gd.rest h
theorem openS_gd (s:Rs):(openS s).2.rest.length<=s.rest.length/\(openS s).2.groups+(openS s).2.rest.length<=s.groups+s.rest.length+1/\(openS s).2.deep=s.deep/\(openS s).2.bad=s.bad:=by
 unfold openS;cases (headIs 63 s.rest&&headIs 58 (s.rest.drop 1))
 ·simp;omega
 ·simp;omega
variable {W:Rs->Pc×Rs} (hW:∀s,Gd 0 s (W s).2)
include hW
theorem groupS_gd (s:Rs):Gd 1 s (groupS W s).2:=by
 unfold groupS;cases hb:Nat.ble 64 s.deep
 ·simp only[cond_false];obtain ⟨o1,o2,o3,o4⟩:=openS_gd {s with deep:=s.deep+1};obtain ⟨h1,h2,h3,h4,h5⟩:=hW (openS {s with deep:=s.deep+1}).2;simp only at o1 o2 o3 o4;generalize (openS {s with deep:=s.deep+1}).2=o at *;generalize W o=t at *;cases hc:(t.2.bad || !headIs 41 t.2.rest)
  ·simp only[cond_false];have htb:t.2.bad=false:=by cases e:t.2.bad with|false=>rfl|true=>rw[e] at hc;cases hc
   have hd:=h5 htb;refine ⟨?_,?_,?_,?_,?_⟩
   ·simp;omega
   ·simp;omega
   ·simp;omega
   ·intro x;exact h4 (o4.trans x)
   ·intro _;simp;omega
  ·simp only[cond_true];refine ⟨?_,?_,?_,λ_=>rfl,λx=>by cases x⟩
   ·simp[failS];omega
   ·simp[failS];omega
   ·simp[failS];omega
 ·simp only[cond_true];refine ⟨?_,?_,?_,λ_=>rfl,λx=>by cases x⟩<;>(simp[failS];try omega)
theorem atomS_gd {s:Rs} {c:UInt8} {r:List UInt8} (h:s.rest=c::r):Gd 0 s (atomS W s).2/\(atomS W s).2.rest.length<=r.length:=by
 have hl:s.rest.length=r.length+1:=by rw[h];rfl
 have h0:Gd 0 s {s with rest:=r}:=Gd.rest (by omega);have hx:∀x:Option Bs×List UInt8,x.2.length<=r.length->Gd 0 s (setS s x).2/\(setS s x).2.rest.length<=r.length:=λx hx=>⟨setS_gd (by omega),by
  obtain ⟨_|f,q⟩:=x<;>exact hx⟩
 unfold atomS;rw[h];simp only;cases (c.toNat==40);rotate_left
 ·simp only[cond_true];obtain ⟨k1,k2,k3,k4,k5⟩:=groupS_gd hW {s with rest:=r};simp only at k1 k2 k3 k4 k5;exact ⟨⟨by omega,by omega,by omega,k4,k5⟩,k1⟩
 cases (c.toNat==94);rotate_left
 ·exact ⟨h0,Nat.le_refl _⟩
 cases (c.toNat==36);rotate_left
 ·exact ⟨h0,Nat.le_refl _⟩
 cases (c.toNat==46);rotate_left
 ·exact ⟨h0,Nat.le_refl _⟩
 cases (c.toNat==91);rotate_left
 ·exact hx _ (classS_len r)
 cases (c.toNat==92);rotate_left
 ·exact hx _ (escS_len r)
 cases stopC c.toNat
 ·exact ⟨h0,Nat.le_refl _⟩
 ·exact ⟨h0.fail,Nat.le_refl _⟩
theorem pieceS_gd {s:Rs} {c:UInt8} {r:List UInt8} (h:s.rest=c::r):Gd 0 s (pieceS W s).2/\(pieceS W s).2.rest.length<=r.length:=by
 have h0:=atomS_gd hW h;unfold pieceS;generalize atomS W s=t at h0 ⊢;simp only;cases hb:t.2.bad
 ·simp only[cond_false];match e:t.2.rest with
  | []=>exact h0
  | d::q=>
   simp only;cases repC d.toNat
   ·exact h0
   ·simp only[cond_true];have h1:(bif headIs 63 q then q.drop 1 else q).length<=q.length:=by cases headIs 63 q<;>simp
    have h2:q.length+1=t.2.rest.length:=by rw[e];rfl
    have h9:=Gd.rest (s:=t.2) (r:=bif headIs 63 q then q.drop 1 else q) (by omega);rw[hb] at h9;exact ⟨h0.1.trans h9,by show (bif headIs 63 q then q.drop 1 else q).length<=_;omega⟩
 ·exact h0
theorem rowS_gd (k:Nat):∀s:Rs,Gd 0 s (rowS W k s).2:=by
 induction k with
 | zero=>intro s;exact Gd.refl s
 | succ k ih=>
  intro s;unfold rowS;cases hb:(s.bad||endR s.rest)
  ·simp only[cond_false];obtain ⟨c,r,hr⟩:∃c r,s.rest=c::r:=by
    match e:s.rest with
    | []=>rw[e] at hb;simp[endR] at hb
    | c::r=>exact ⟨c,r,rfl⟩
   exact (pieceS_gd hW hr).1.trans (ih _)
  ·exact Gd.refl s
theorem altS_gd (k:Nat):∀s:Rs,Gd 0 s (altS W k s).2:=by
 induction k with
 | zero=>intro s;exact Gd.refl s
 | succ k ih=>
  intro s;unfold altS;have h0:Gd 0 s (rowP W s).2:=rowS_gd hW _ s;generalize rowP W s=t at h0 ⊢;simp only;cases hb:(!t.2.bad&&headIs 124 t.2.rest)
  ·exact h0
  ·simp only[cond_true];exact (h0.trans (Gd.rest (r:=t.2.rest.drop 1) (by simp))).trans (ih _)
omit hW in
theorem waysS_gd (n:Nat):∀s:Rs,Gd 0 s (waysS n s).2:=by
 induction n with
 | zero=>intro s;exact (Gd.refl s).fail
 | succ n ih=>intro s;exact altS_gd ih _ s
def BdX (q:Rs):Prop:=q.groups+q.rest.length<=5000/\q.deep+q.rest.length<=5000
omit hW in
theorem Gd.bd {s t:Rs} (h:Gd 0 s t) (k:BdX s):BdX t:=⟨Nat.le_trans h.g k.1,Nat.le_trans h.d k.2⟩
end
theorem RetP.from {R:Nat} {s:ByteArray} {w w2 w':World} {p:Pc} {q:Rs} {e:Ending} (x:GX R w w2) (h:RetP R s w2 p q e w'):RetP R s w p q e w':=by
 obtain ⟨b,n,he,k,y,hr⟩:=h;have:=x.size;exact ⟨b,n,he,Pc.In.wide (by omega) (Nat.le_refl _) _ _ k,x.trans y,hr⟩
theorem atom_group {w:World} {R n:Nat} {s:ByteArray} {q:Rs} (h:Rdr w R s n q) (hs:(s.size:Int)<=4096) {c:UInt8} {r:List UInt8} (hq:q.rest=c::r) (hc:c.toNat=40) (P:Pc) (t:Rs) (HG:∀W,Rdr W R s (n+1) {q with rest:=r}->Calls Tryz.prog 152 #[.pointer (some ⟨R,0,none⟩)] W (RetP R s W P t)) :
  Calls Tryz.prog 146 #[.pointer (some ⟨R,0,none⟩)] w (RetP R s w P t):=by
 have Q:=λw (h:Rdr w R s n q)=>now_some h hs hq;simp only[hc] at Q;have hle:=h.len;rw[hq] at hle;simp at hle;have hn:(n:Int)<4096:=by omega
 have hwr:=wrap_in ((n:Int)+1) (by omega) (by omega);clear hle;go_enter Tryz.func146,Tryz.ntmps146;go_upto_region 2 with (go_at_call 135;refine (Q _ h).mono ?_;rintro e w1 ⟨rfl,g1⟩)
 have h1:=h.gr g1;obtain ⟨c1,f1⟩:=And.intro h1.c1 h1.f1;go_upto_region 3 with (fail)
 have h2:=h1.next hq;have x2:GX R w (w1.setCell ⟨R,1,none⟩ (.int .i64 ((n:Int)+1))):=GX.setCell (p:=⟨R,1,none⟩) (GX.of_gr (R:=R) g1) (.inl rfl) _;clear c1 f1 h1 g1 Q hwr h hq;generalize (w1.setCell ⟨R,1,none⟩ (.int .i64 ((n:Int)+1)))=w2 at h2 x2 ⊢;go_wp2_with (go_at_call 152;refine (HG _ h2).mono ?_;rintro e w9 ⟨b,m9,rfl,k9,x9,h9⟩);go_ret;exact RetP.from (x2) ⟨b,m9,rfl,k9,x9,h9⟩
theorem atom_begin {w:World} {R n:Nat} {s:ByteArray} {q:Rs} (h:Rdr w R s n q) (hs:(s.size:Int)<=4096) {c:UInt8} {r:List UInt8} (hq:q.rest=c::r) (hc:c.toNat=94) :
  Calls Tryz.prog 146 #[.pointer (some ⟨R,0,none⟩)] w (RetP R s w (.leaf 5 []) {q with rest:=r}):=by
 have Q:=λw (h:Rdr w R s n q)=>now_some h hs hq;simp only[hc] at Q;have hle:=h.len;rw[hq] at hle;simp at hle;have hn:(n:Int)<4096:=by omega
 have hwr:=wrap_in ((n:Int)+1) (by omega) (by omega);clear hle;go_enter Tryz.func146,Tryz.ntmps146;go_upto_region 2 with (go_at_call 135;refine (Q _ h).mono ?_;rintro e w1 ⟨rfl,g1⟩)
 have h1:=h.gr g1;obtain ⟨c1,f1⟩:=And.intro h1.c1 h1.f1;go_upto_region 3 with (fail)
 have h2:=h1.next hq;have x2:GX R w (w1.setCell ⟨R,1,none⟩ (.int .i64 ((n:Int)+1))):=GX.setCell (p:=⟨R,1,none⟩) (GX.of_gr (R:=R) g1) (.inl rfl) _;clear c1 f1 h1 g1 Q hwr h hq;generalize (w1.setCell ⟨R,1,none⟩ (.int .i64 ((n:Int)+1)))=w2 at h2 x2 ⊢;go_wp2;go_ret;exact RetP.leaf x2 h2 5 []
theorem atom_end {w:World} {R n:Nat} {s:ByteArray} {q:Rs} (h:Rdr w R s n q) (hs:(s.size:Int)<=4096) {c:UInt8} {r:List UInt8} (hq:q.rest=c::r) (hc:c.toNat=36) :
  Calls Tryz.prog 146 #[.pointer (some ⟨R,0,none⟩)] w (RetP R s w (.leaf 6 []) {q with rest:=r}):=by
 have Q:=λw (h:Rdr w R s n q)=>now_some h hs hq;simp only[hc] at Q;have hle:=h.len;rw[hq] at hle;simp at hle;have hn:(n:Int)<4096:=by omega
 have hwr:=wrap_in ((n:Int)+1) (by omega) (by omega);clear hle;go_enter Tryz.func146,Tryz.ntmps146;go_upto_region 2 with (go_at_call 135;refine (Q _ h).mono ?_;rintro e w1 ⟨rfl,g1⟩)
 have h1:=h.gr g1;obtain ⟨c1,f1⟩:=And.intro h1.c1 h1.f1;go_upto_region 3 with (fail)
 have h2:=h1.next hq;have x2:GX R w (w1.setCell ⟨R,1,none⟩ (.int .i64 ((n:Int)+1))):=GX.setCell (p:=⟨R,1,none⟩) (GX.of_gr (R:=R) g1) (.inl rfl) _;clear c1 f1 h1 g1 Q hwr h hq;generalize (w1.setCell ⟨R,1,none⟩ (.int .i64 ((n:Int)+1)))=w2 at h2 x2 ⊢;go_wp2;go_ret;exact RetP.leaf x2 h2 6 []
theorem atom_any {w:World} {R n:Nat} {s:ByteArray} {q:Rs} (h:Rdr w R s n q) (hs:(s.size:Int)<=4096) {c:UInt8} {r:List UInt8} (hq:q.rest=c::r) (hc:c.toNat=46) :
  Calls Tryz.prog 146 #[.pointer (some ⟨R,0,none⟩)] w (RetP R s w (.leaf 1 (pairsS (notB (oneB 10)))) {q with rest:=r}):=by
 have Q:=λw (h:Rdr w R s n q)=>now_some h hs hq;simp only[hc] at Q;have hle:=h.len;rw[hq] at hle;simp at hle;have hn:(n:Int)<4096:=by omega
 have hwr:=wrap_in ((n:Int)+1) (by omega) (by omega);clear hle;go_enter Tryz.func146,Tryz.ntmps146;go_upto_region 2 with (go_at_call 135;refine (Q _ h).mono ?_;rintro e w1 ⟨rfl,g1⟩)
 have h1:=h.gr g1;obtain ⟨c1,f1⟩:=And.intro h1.c1 h1.f1;go_upto_region 3 with (fail)
 have h2:=h1.next hq;have x2:GX R w (w1.setCell ⟨R,1,none⟩ (.int .i64 ((n:Int)+1))):=GX.setCell (p:=⟨R,1,none⟩) (GX.of_gr (R:=R) g1) (.inl rfl) _;clear c1 f1 h1 g1 Q hwr h hq;generalize (w1.setCell ⟨R,1,none⟩ (.int .i64 ((n:Int)+1)))=w2 at h2 x2 ⊢;go_wp2_with (first
  | (go_at_call 153;refine (one_any 10 _ (by decide)).mono ?_;rintro e w3 ⟨rfl,g3⟩)
  | (go_at_call 154;refine (not_any (oneB 10) _).mono ?_;rintro e w4 ⟨rfl,g4⟩)
  | (go_at_call 155;refine (pairs_any (notB (oneB 10)) _).mono ?_;rintro e w5 ⟨rfl,g5⟩))
 go_ret;exact RetP.leaf (x2.trans (GX.of_gr (Gr.trans (Gr.trans g3 g4) g5))) (h2.gr (Gr.trans (Gr.trans g3 g4) g5)) 1 _
theorem atom_class {w:World} {R n:Nat} {s:ByteArray} {q:Rs} (h:Rdr w R s n q) (hs:(s.size:Int)<=4096) {c:UInt8} {r:List UInt8} (hq:q.rest=c::r) (hc:c.toNat=91) (Z:Option Bs×List UInt8) (hZ:classS r=Z) :
  Calls Tryz.prog 146 #[.pointer (some ⟨R,0,none⟩)] w (RetP R s w (setS q Z).1 (setS q Z).2):=by
 have Q:=λw (h:Rdr w R s n q)=>now_some h hs hq;simp only[hc] at Q;have hle:=h.len;rw[hq] at hle;simp at hle;have hn:(n:Int)<4096:=by omega
 have hwr:=wrap_in ((n:Int)+1) (by omega) (by omega);clear hle;go_enter Tryz.func146,Tryz.ntmps146;go_upto_region 2 with (go_at_call 135;refine (Q _ h).mono ?_;rintro e w1 ⟨rfl,g1⟩)
 have h1:=h.gr g1;obtain ⟨c1,f1⟩:=And.intro h1.c1 h1.f1;go_upto_region 3 with (fail)
 have h2:=h1.next hq;have x2:GX R w (w1.setCell ⟨R,1,none⟩ (.int .i64 ((n:Int)+1))):=GX.setCell (p:=⟨R,1,none⟩) (GX.of_gr (R:=R) g1) (.inl rfl) _;clear c1 f1 h1 g1 Q hwr h hq;generalize (w1.setCell ⟨R,1,none⟩ (.int .i64 ((n:Int)+1)))=w2 at h2 x2 ⊢;obtain ⟨hz,hsz⟩:=zero_of_info info_set;have HC:∀W,Rdr W R s (n+1) {q with rest:=r}->Calls Tryz.prog 156 #[.pointer (some ⟨R,0,none⟩)] W (RetBX R s W (classS r).1 {q with rest:=(classS r).2}):=λW hW=>class_any hW hs;rw[hZ] at HC;clear hZ;obtain ⟨_|f,u⟩:=Z
 ·go_upto_region 14 with (first
   | (go_at_call 156;refine (HC _ h2).mono ?_;rintro e w3 ⟨f,m3,rfl,f3,x3,h3⟩)
   | (refine wpList_store_row rfl 219 (.tmp 5) (.tmp 50) rfl (w3.heap.size) (bsA f) rfl rfl _ _ (SetAt.new w3 noB) (size_bsA _) (by simp only[bsA_size]) (bsA_one _) ?_))
  have g4:Gr w3 ((w3.alloc (.cells (bsA noB) 219)).setRow w3.heap.size (bsA f)):=Gr.setRow (Gr.alloc (Gr.refl w3) _) (g:=w3.heap.size) (Nat.le_refl _) (bsA f);generalize ((w3.alloc (.cells (bsA noB) 219)).setRow w3.heap.size (bsA f))=w4 at g4 ⊢;have h4:=h3.gr g4;go_wp2_with (go_at_call 157;refine (fail_any h4).mono ?_;rintro e w9 ⟨b,m9,rfl,k9,x9,h9⟩);go_ret;exact RetP.from (x2.trans (x3.trans (GX.of_gr g4))) ⟨b,m9,rfl,k9,x9,h9⟩
 ·go_upto_region 14 with (first
   | (go_at_call 156;refine (HC _ h2).mono ?_;rintro e w3 ⟨f0,m3,rfl,f3,x3,h3⟩;have f3:=(f3 _ rfl).symm;subst f3)
   | (refine wpList_store_row rfl 219 (.tmp 5) (.tmp 50) rfl (w3.heap.size) (bsA f) rfl rfl _ _ (SetAt.new w3 noB) (size_bsA _) (by simp only[bsA_size]) (bsA_one _) ?_))
  have g4:Gr w3 ((w3.alloc (.cells (bsA noB) 219)).setRow w3.heap.size (bsA f)):=Gr.setRow (Gr.alloc (Gr.refl w3) _) (g:=w3.heap.size) (Nat.le_refl _) (bsA f);have hs4:SetAt ((w3.alloc (.cells (bsA noB) 219)).setRow w3.heap.size (bsA f)) w3.heap.size f:=SetAt.row (SetAt.new w3 noB);generalize ((w3.alloc (.cells (bsA noB) 219)).setRow w3.heap.size (bsA f))=w4 at g4 hs4 ⊢;go_wp2_with (first
   | (refine wpList_load_row rfl 219 (.tmp 5) rfl (w3.heap.size) rfl _ (bsA (f)) (0,0) _ hs4 und_set rfl (size_bsA _) ?_)
   | (go_at_call 155;refine (pairs_any f _).mono ?_;rintro e w5 ⟨rfl,g5⟩))
  go_ret;exact RetP.leaf (x2.trans (x3.trans (GX.of_gr (Gr.trans g4 g5)))) (h3.gr (Gr.trans g4 g5)) 1 _
theorem atom_esc {w:World} {R n:Nat} {s:ByteArray} {q:Rs} (h:Rdr w R s n q) (hs:(s.size:Int)<=4096) {c:UInt8} {r:List UInt8} (hq:q.rest=c::r) (hc:c.toNat=92) (Z:Option Bs×List UInt8) (hZ:escS r=Z) :
  Calls Tryz.prog 146 #[.pointer (some ⟨R,0,none⟩)] w (RetP R s w (setS q Z).1 (setS q Z).2):=by
 have Q:=λw (h:Rdr w R s n q)=>now_some h hs hq;simp only[hc] at Q;have hle:=h.len;rw[hq] at hle;simp at hle;have hn:(n:Int)<4096:=by omega
 have hwr:=wrap_in ((n:Int)+1) (by omega) (by omega);clear hle;go_enter Tryz.func146,Tryz.ntmps146;go_upto_region 2 with (go_at_call 135;refine (Q _ h).mono ?_;rintro e w1 ⟨rfl,g1⟩)
 have h1:=h.gr g1;obtain ⟨c1,f1⟩:=And.intro h1.c1 h1.f1;go_upto_region 3 with (fail)
 have h2:=h1.next hq;have x2:GX R w (w1.setCell ⟨R,1,none⟩ (.int .i64 ((n:Int)+1))):=GX.setCell (p:=⟨R,1,none⟩) (GX.of_gr (R:=R) g1) (.inl rfl) _;clear c1 f1 h1 g1 Q hwr h hq;generalize (w1.setCell ⟨R,1,none⟩ (.int .i64 ((n:Int)+1)))=w2 at h2 x2 ⊢;obtain ⟨hz,hsz⟩:=zero_of_info info_set;have HC:∀W,Rdr W R s (n+1) {q with rest:=r}->Calls Tryz.prog 158 #[.pointer (some ⟨R,0,none⟩)] W (RetBX R s W (escS r).1 {q with rest:=(escS r).2}):=λW hW=>esc_any hW hs;rw[hZ] at HC;clear hZ;obtain ⟨_|f,u⟩:=Z
 ·go_upto_region 19 with (first
   | (go_at_call 158;refine (HC _ h2).mono ?_;rintro e w3 ⟨f,m3,rfl,f3,x3,h3⟩)
   | (refine wpList_store_row rfl 219 (.tmp 7) (.tmp 65) rfl (w3.heap.size) (bsA f) rfl rfl _ _ (SetAt.new w3 noB) (size_bsA _) (by simp only[bsA_size]) (bsA_one _) ?_))
  have g4:Gr w3 ((w3.alloc (.cells (bsA noB) 219)).setRow w3.heap.size (bsA f)):=Gr.setRow (Gr.alloc (Gr.refl w3) _) (g:=w3.heap.size) (Nat.le_refl _) (bsA f);generalize ((w3.alloc (.cells (bsA noB) 219)).setRow w3.heap.size (bsA f))=w4 at g4 ⊢;have h4:=h3.gr g4;go_wp2_with (go_at_call 157;refine (fail_any h4).mono ?_;rintro e w9 ⟨b,m9,rfl,k9,x9,h9⟩);go_ret;exact RetP.from (x2.trans (x3.trans (GX.of_gr g4))) ⟨b,m9,rfl,k9,x9,h9⟩
 ·go_upto_region 19 with (first
   | (go_at_call 158;refine (HC _ h2).mono ?_;rintro e w3 ⟨f0,m3,rfl,f3,x3,h3⟩;have f3:=(f3 _ rfl).symm;subst f3)
   | (refine wpList_store_row rfl 219 (.tmp 7) (.tmp 65) rfl (w3.heap.size) (bsA f) rfl rfl _ _ (SetAt.new w3 noB) (size_bsA _) (by simp only[bsA_size]) (bsA_one _) ?_))
  have g4:Gr w3 ((w3.alloc (.cells (bsA noB) 219)).setRow w3.heap.size (bsA f)):=Gr.setRow (Gr.alloc (Gr.refl w3) _) (g:=w3.heap.size) (Nat.le_refl _) (bsA f);have hs4:SetAt ((w3.alloc (.cells (bsA noB) 219)).setRow w3.heap.size (bsA f)) w3.heap.size f:=SetAt.row (SetAt.new w3 noB);generalize ((w3.alloc (.cells (bsA noB) 219)).setRow w3.heap.size (bsA f))=w4 at g4 hs4 ⊢;go_wp2_with (first
   | (refine wpList_load_row rfl 219 (.tmp 7) rfl (w3.heap.size) rfl _ (bsA (f)) (0,0) _ hs4 und_set rfl (size_bsA _) ?_)
   | (go_at_call 155;refine (pairs_any f _).mono ?_;rintro e w5 ⟨rfl,g5⟩))
  go_ret;exact RetP.leaf (x2.trans (x3.trans (GX.of_gr (Gr.trans g4 g5)))) (h3.gr (Gr.trans g4 g5)) 1 _
theorem atom_stop124 {w:World} {R n:Nat} {s:ByteArray} {q:Rs} (h:Rdr w R s n q) (hs:(s.size:Int)<=4096) {c:UInt8} {r:List UInt8} (hq:q.rest=c::r) (hc:c.toNat=124) :
  Calls Tryz.prog 146 #[.pointer (some ⟨R,0,none⟩)] w (RetP R s w (failS {q with rest:=r}).1 (failS {q with rest:=r}).2):=by
 have Q:=λw (h:Rdr w R s n q)=>now_some h hs hq;simp only[hc] at Q;have hle:=h.len;rw[hq] at hle;simp at hle;have hn:(n:Int)<4096:=by omega
 have hwr:=wrap_in ((n:Int)+1) (by omega) (by omega);clear hle;go_enter Tryz.func146,Tryz.ntmps146;go_upto_region 2 with (go_at_call 135;refine (Q _ h).mono ?_;rintro e w1 ⟨rfl,g1⟩)
 have h1:=h.gr g1;obtain ⟨c1,f1⟩:=And.intro h1.c1 h1.f1;go_upto_region 3 with (fail)
 have h2:=h1.next hq;have x2:GX R w (w1.setCell ⟨R,1,none⟩ (.int .i64 ((n:Int)+1))):=GX.setCell (p:=⟨R,1,none⟩) (GX.of_gr (R:=R) g1) (.inl rfl) _;clear c1 f1 h1 g1 Q hwr h hq;generalize (w1.setCell ⟨R,1,none⟩ (.int .i64 ((n:Int)+1)))=w2 at h2 x2 ⊢;go_wp2_with (go_at_call 157;refine (fail_any h2).mono ?_;rintro e w9 ⟨b,m9,rfl,k9,x9,h9⟩);go_ret;exact RetP.from (x2) ⟨b,m9,rfl,k9,x9,h9⟩
theorem atom_stop63 {w:World} {R n:Nat} {s:ByteArray} {q:Rs} (h:Rdr w R s n q) (hs:(s.size:Int)<=4096) {c:UInt8} {r:List UInt8} (hq:q.rest=c::r) (hc:c.toNat=63) :
  Calls Tryz.prog 146 #[.pointer (some ⟨R,0,none⟩)] w (RetP R s w (failS {q with rest:=r}).1 (failS {q with rest:=r}).2):=by
 have Q:=λw (h:Rdr w R s n q)=>now_some h hs hq;simp only[hc] at Q;have hle:=h.len;rw[hq] at hle;simp at hle;have hn:(n:Int)<4096:=by omega
 have hwr:=wrap_in ((n:Int)+1) (by omega) (by omega);clear hle;go_enter Tryz.func146,Tryz.ntmps146;go_upto_region 2 with (go_at_call 135;refine (Q _ h).mono ?_;rintro e w1 ⟨rfl,g1⟩)
 have h1:=h.gr g1;obtain ⟨c1,f1⟩:=And.intro h1.c1 h1.f1;go_upto_region 3 with (fail)
 have h2:=h1.next hq;have x2:GX R w (w1.setCell ⟨R,1,none⟩ (.int .i64 ((n:Int)+1))):=GX.setCell (p:=⟨R,1,none⟩) (GX.of_gr (R:=R) g1) (.inl rfl) _;clear c1 f1 h1 g1 Q hwr h hq;generalize (w1.setCell ⟨R,1,none⟩ (.int .i64 ((n:Int)+1)))=w2 at h2 x2 ⊢;go_wp2_with (go_at_call 157;refine (fail_any h2).mono ?_;rintro e w9 ⟨b,m9,rfl,k9,x9,h9⟩);go_ret;exact RetP.from (x2) ⟨b,m9,rfl,k9,x9,h9⟩
theorem atom_stop42 {w:World} {R n:Nat} {s:ByteArray} {q:Rs} (h:Rdr w R s n q) (hs:(s.size:Int)<=4096) {c:UInt8} {r:List UInt8} (hq:q.rest=c::r) (hc:c.toNat=42) :
  Calls Tryz.prog 146 #[.pointer (some ⟨R,0,none⟩)] w (RetP R s w (failS {q with rest:=r}).1 (failS {q with rest:=r}).2):=by
 have Q:=λw (h:Rdr w R s n q)=>now_some h hs hq;simp only[hc] at Q;have hle:=h.len;rw[hq] at hle;simp at hle;have hn:(n:Int)<4096:=by omega
 have hwr:=wrap_in ((n:Int)+1) (by omega) (by omega);clear hle;go_enter Tryz.func146,Tryz.ntmps146;go_upto_region 2 with (go_at_call 135;refine (Q _ h).mono ?_;rintro e w1 ⟨rfl,g1⟩)
 have h1:=h.gr g1;obtain ⟨c1,f1⟩:=And.intro h1.c1 h1.f1;go_upto_region 3 with (fail)
 have h2:=h1.next hq;have x2:GX R w (w1.setCell ⟨R,1,none⟩ (.int .i64 ((n:Int)+1))):=GX.setCell (p:=⟨R,1,none⟩) (GX.of_gr (R:=R) g1) (.inl rfl) _;clear c1 f1 h1 g1 Q hwr h hq;generalize (w1.setCell ⟨R,1,none⟩ (.int .i64 ((n:Int)+1)))=w2 at h2 x2 ⊢;go_wp2_with (go_at_call 157;refine (fail_any h2).mono ?_;rintro e w9 ⟨b,m9,rfl,k9,x9,h9⟩);go_ret;exact RetP.from (x2) ⟨b,m9,rfl,k9,x9,h9⟩
theorem atom_stop43 {w:World} {R n:Nat} {s:ByteArray} {q:Rs} (h:Rdr w R s n q) (hs:(s.size:Int)<=4096) {c:UInt8} {r:List UInt8} (hq:q.rest=c::r) (hc:c.toNat=43) :
  Calls Tryz.prog 146 #[.pointer (some ⟨R,0,none⟩)] w (RetP R s w (failS {q with rest:=r}).1 (failS {q with rest:=r}).2):=by
 have Q:=λw (h:Rdr w R s n q)=>now_some h hs hq;simp only[hc] at Q;have hle:=h.len;rw[hq] at hle;simp at hle;have hn:(n:Int)<4096:=by omega
 have hwr:=wrap_in ((n:Int)+1) (by omega) (by omega);clear hle;go_enter Tryz.func146,Tryz.ntmps146;go_upto_region 2 with (go_at_call 135;refine (Q _ h).mono ?_;rintro e w1 ⟨rfl,g1⟩)
 have h1:=h.gr g1;obtain ⟨c1,f1⟩:=And.intro h1.c1 h1.f1;go_upto_region 3 with (fail)
 have h2:=h1.next hq;have x2:GX R w (w1.setCell ⟨R,1,none⟩ (.int .i64 ((n:Int)+1))):=GX.setCell (p:=⟨R,1,none⟩) (GX.of_gr (R:=R) g1) (.inl rfl) _;clear c1 f1 h1 g1 Q hwr h hq;generalize (w1.setCell ⟨R,1,none⟩ (.int .i64 ((n:Int)+1)))=w2 at h2 x2 ⊢;go_wp2_with (go_at_call 157;refine (fail_any h2).mono ?_;rintro e w9 ⟨b,m9,rfl,k9,x9,h9⟩);go_ret;exact RetP.from (x2) ⟨b,m9,rfl,k9,x9,h9⟩
theorem atom_stop41 {w:World} {R n:Nat} {s:ByteArray} {q:Rs} (h:Rdr w R s n q) (hs:(s.size:Int)<=4096) {c:UInt8} {r:List UInt8} (hq:q.rest=c::r) (hc:c.toNat=41) :
  Calls Tryz.prog 146 #[.pointer (some ⟨R,0,none⟩)] w (RetP R s w (failS {q with rest:=r}).1 (failS {q with rest:=r}).2):=by
 have Q:=λw (h:Rdr w R s n q)=>now_some h hs hq;simp only[hc] at Q;have hle:=h.len;rw[hq] at hle;simp at hle;have hn:(n:Int)<4096:=by omega
 have hwr:=wrap_in ((n:Int)+1) (by omega) (by omega);clear hle;go_enter Tryz.func146,Tryz.ntmps146;go_upto_region 2 with (go_at_call 135;refine (Q _ h).mono ?_;rintro e w1 ⟨rfl,g1⟩)
 have h1:=h.gr g1;obtain ⟨c1,f1⟩:=And.intro h1.c1 h1.f1;go_upto_region 3 with (fail)
 have h2:=h1.next hq;have x2:GX R w (w1.setCell ⟨R,1,none⟩ (.int .i64 ((n:Int)+1))):=GX.setCell (p:=⟨R,1,none⟩) (GX.of_gr (R:=R) g1) (.inl rfl) _;clear c1 f1 h1 g1 Q hwr h hq;generalize (w1.setCell ⟨R,1,none⟩ (.int .i64 ((n:Int)+1)))=w2 at h2 x2 ⊢;go_wp2_with (go_at_call 157;refine (fail_any h2).mono ?_;rintro e w9 ⟨b,m9,rfl,k9,x9,h9⟩);go_ret;exact RetP.from (x2) ⟨b,m9,rfl,k9,x9,h9⟩
theorem atom_else {w:World} {R n:Nat} {s:ByteArray} {q:Rs} (h:Rdr w R s n q) (hs:(s.size:Int)<=4096) {c:UInt8} {r:List UInt8} (hq:q.rest=c::r) (hc:∀k∈[40,94,36,46,91,92,124,63,42,43,41],c.toNat≠k) :
  Calls Tryz.prog 146 #[.pointer (some ⟨R,0,none⟩)] w (RetP R s w (.leaf 1 (pairsS (oneB c.toNat))) {q with rest:=r}):=by
 have Q:=λw (h:Rdr w R s n q)=>now_some h hs hq;simp only[List.mem_cons,List.not_mem_nil,or_false,forall_eq_or_imp,forall_eq] at hc;have k40:((c.toNat:Int)==40)=false:=beq_eq_false_iff_ne.2 (by omega);have k94:((c.toNat:Int)==94)=false:=beq_eq_false_iff_ne.2 (by omega);have k36:((c.toNat:Int)==36)=false:=beq_eq_false_iff_ne.2 (by omega);have k46:((c.toNat:Int)==46)=false:=beq_eq_false_iff_ne.2 (by omega);have k91:((c.toNat:Int)==91)=false:=beq_eq_false_iff_ne.2 (by omega);have k92:((c.toNat:Int)==92)=false:=beq_eq_false_iff_ne.2 (by omega);have k124:((c.toNat:Int)==124)=false:=beq_eq_false_iff_ne.2 (by omega);have k63:((c.toNat:Int)==63)=false:=beq_eq_false_iff_ne.2 (by omega);have k42:((c.toNat:Int)==42)=false:=beq_eq_false_iff_ne.2 (by omega);have k43:((c.toNat:Int)==43)=false:=beq_eq_false_iff_ne.2 (by omega);have k41:((c.toNat:Int)==41)=false:=beq_eq_false_iff_ne.2 (by omega);have hle:=h.len;rw[hq] at hle;simp at hle;have hn:(n:Int)<4096:=by omega
 have hwr:=wrap_in ((n:Int)+1) (by omega) (by omega);clear hle;go_enter Tryz.func146,Tryz.ntmps146;go_upto_region 2 with (go_at_call 135;refine (Q _ h).mono ?_;rintro e w1 ⟨rfl,g1⟩)
 have h1:=h.gr g1;obtain ⟨c1,f1⟩:=And.intro h1.c1 h1.f1;go_upto_region 3 with (fail)
 have h2:=h1.next hq;have x2:GX R w (w1.setCell ⟨R,1,none⟩ (.int .i64 ((n:Int)+1))):=GX.setCell (p:=⟨R,1,none⟩) (GX.of_gr (R:=R) g1) (.inl rfl) _;clear c1 f1 h1 g1 Q hwr h hq;generalize (w1.setCell ⟨R,1,none⟩ (.int .i64 ((n:Int)+1)))=w2 at h2 x2 ⊢;go_wp2_with (first
  | (go_at_call 153;refine (one_any c.toNat _ c.toNat_lt).mono ?_;rintro e w3 ⟨rfl,g3⟩)
  | (go_at_call 155;refine (pairs_any (oneB c.toNat) _).mono ?_;rintro e w5 ⟨rfl,g5⟩))
 go_ret;exact RetP.leaf (x2.trans (GX.of_gr (Gr.trans g3 g5))) (h2.gr (Gr.trans g3 g5)) 1 _
theorem Rkn.one {R b lo:Nat} {w3 w5:World} (T:TypeId) (y:GX R (w3.alloc (.cells #[.pointer (some ⟨b,0,none⟩)] T)) w5) (hR:R<w3.heap.size) (hlo:lo<w3.heap.size):Rkn lo w5.heap.size w5 (.slice (some ⟨w3.heap.size,0,none⟩) 1 1) [b]:=by
 have h0:=Rd.byte (W:=w3) rfl T (.pointer (some ⟨b,0,none⟩));have hz:=y.size;simp at hz;refine ⟨some ⟨w3.heap.size,0,none⟩,1,rfl,Rd.gx h0 y (λ_ ad ha=>by injection ha with ha;subst ha;simp;omega),λ_ ad ha=>?_⟩;injection ha with ha;subst ha;exact ⟨hlo,by simp;omega⟩
theorem RetP.rep {R b m:Nat} {s:ByteArray} {w w3 w5:World} {p:Pc} {q:Rs} (T:TypeId) (op:Nat) (z:Bool) (hR:R<w.heap.size) (x:GX R w w3) (k:p.In (w.heap.size-1) w3.heap.size w3 b) (y:GX R (w3.alloc (.cells #[.pointer (some ⟨b,0,none⟩)] T)) w5) (h:Rdr w5 R s m q) :
  RetP R s w (.rep op z p) q (.returned (.pointer (some ⟨w5.heap.size,0,none⟩))) (w5.alloc (.cells #[.int .i64 op, .string ⟨#[]⟩, .slice (some ⟨w3.heap.size,0,none⟩) 1 1, .int .i64 0, .bool z] 179)):=by
 have hx:=x.size;have y1:GX R (w3.alloc (.cells #[.pointer (some ⟨b,0,none⟩)] T)) (w5.alloc (.cells #[.int .i64 op, .string ⟨#[]⟩, .slice (some ⟨w3.heap.size,0,none⟩) 1 1, .int .i64 0, .bool z] 179)):=y.alloc _;have y2:GX R w3 (w5.alloc (.cells #[.int .i64 op, .string ⟨#[]⟩, .slice (some ⟨w3.heap.size,0,none⟩) 1 1, .int .i64 0, .bool z] 179)):=(GX.of_gr (Gr.alloc (Gr.refl w3) _)).trans y1;have hy:=y2.size;refine ⟨_,m,rfl,?_,x.trans y2,h.gr (Gr.alloc (Gr.refl _) _)⟩;have hz:=y.size;simp at hz;simp only[Pc.In];exact ⟨by omega,by simp,_,b,node_new w5 op 0 [] _ z,Rkn.one T y1 (by omega) (by omega),Pc.In.wide (Nat.le_refl _) hy _ _ (Pc.In.same (Same.gx y2 (Nat.le_refl _) (by omega)) _ _ k)⟩
theorem now_free {w:World} {R n:Nat} {s:ByteArray} {q:Rs} (h:Rdr w R s n q) (hs:(s.size:Int)<=4096) :
  Calls Tryz.prog 135 #[.pointer (some ⟨R,0,none⟩)] w λe w'=>∃(c:Nat) (z:Bool),e= .returned (.tuple #[.int .u8 c, .bool z])/\Gr w w':=by
 match e:q.rest with
 | []=>exact (now_end h hs e).mono λe w' h=>⟨0,false,h.1,h.2⟩
 | c::r=>exact (now_some h hs e).mono λe w' h=>⟨c.toNat,true,h.1,h.2⟩
theorem atom_all {w:World} {R n:Nat} {s:ByteArray} {q:Rs} (Wf:Rs->Pc×Rs) (h:Rdr w R s n q) (hs:(s.size:Int)<=4096) {c:UInt8} {r:List UInt8} (hq:q.rest=c::r)
  (HG:∀W,Rdr W R s (n+1) {q with rest:=r}->Calls Tryz.prog 152 #[.pointer (some ⟨R,0,none⟩)] W (RetP R s W (groupS Wf {q with rest:=r}).1 (groupS Wf {q with rest:=r}).2)) :
  Calls Tryz.prog 146 #[.pointer (some ⟨R,0,none⟩)] w (RetP R s w (atomS Wf q).1 (atomS Wf q).2):=by
 unfold atomS;rw[hq];simp only;by_cases h40:c.toNat=40
 ·rw[show (c.toNat==40)=true from by rw[h40];rfl];exact atom_group h hs hq h40 _ _ HG
 by_cases h94:c.toNat=94
 ·simp only[h94,Nat.reduceBEq,cond_true,cond_false];exact atom_begin h hs hq h94
 by_cases h36:c.toNat=36
 ·simp only[h36,Nat.reduceBEq,cond_true,cond_false];exact atom_end h hs hq h36
 by_cases h46:c.toNat=46
 ·simp only[h46,Nat.reduceBEq,cond_true,cond_false];exact atom_any h hs hq h46
 by_cases h91:c.toNat=91
 ·simp only[h91,Nat.reduceBEq,cond_true,cond_false];exact atom_class h hs hq h91 _ rfl
 by_cases h92:c.toNat=92
 ·simp only[h92,Nat.reduceBEq,cond_true,cond_false];exact atom_esc h hs hq h92 _ rfl
 rw[beq_eq_false_iff_ne.2 h40,beq_eq_false_iff_ne.2 h94,beq_eq_false_iff_ne.2 h36,beq_eq_false_iff_ne.2 h46,beq_eq_false_iff_ne.2 h91,beq_eq_false_iff_ne.2 h92];simp only[cond_false];by_cases h124:c.toNat=124
 ·rw[h124];exact atom_stop124 h hs hq h124
 by_cases h63:c.toNat=63
 ·rw[h63];exact atom_stop63 h hs hq h63
 by_cases h42:c.toNat=42
 ·rw[h42];exact atom_stop42 h hs hq h42
 by_cases h43:c.toNat=43
 ·rw[h43];exact atom_stop43 h hs hq h43
 by_cases h41:c.toNat=41
 ·rw[h41];exact atom_stop41 h hs hq h41
 have hst:stopC c.toNat=false:=by
  unfold stopC;rw[beq_eq_false_iff_ne.2 h124,beq_eq_false_iff_ne.2 h63,beq_eq_false_iff_ne.2 h42,beq_eq_false_iff_ne.2 h43,beq_eq_false_iff_ne.2 h41];rfl
 rw[hst];exact atom_else h hs hq (by simp only[List.mem_cons,List.not_mem_nil,or_false,forall_eq_or_imp,forall_eq];exact ⟨h40,h94,h36,h46,h91,h92,h124,h63,h42,h43,h41⟩)
theorem piece_bad {w:World} {R n:Nat} {s:ByteArray} {q:Rs} (h:Rdr w R s n q) (hs:(s.size:Int)<=4096) (A:Pc) (t:Rs) (HA:Calls Tryz.prog 146 #[.pointer (some ⟨R,0,none⟩)] w (RetP R s w A t)) (hb:t.bad=true) :
  Calls Tryz.prog 136 #[.pointer (some ⟨R,0,none⟩)] w (RetP R s w (A) t):=by
 have hR:=h.lt;clear h;go_enter Tryz.func136,Tryz.ntmps136;go_upto_region 2 with (go_at_call 146;refine HA.mono ?_;rintro e w3 ⟨b,m,rfl,k,x,h3⟩)
 clear HA;have QN:=now_free h3 hs;go_upto_region 3 with (go_at_call 135;refine QN.mono ?_;rintro e w4 ⟨c,z,rfl,g4⟩)
 have h4:=h3.gr g4;clear QN;obtain ⟨c4,f4⟩:=And.intro h4.c4 h4.f4;rw[hb] at c4;go_wp2;go_ret;exact ⟨b,m,rfl,Pc.In.wide (Nat.le_refl _) g4.size _ _ (Pc.In.same (Same.gr g4 (Nat.le_refl _)) _ _ k),x.trans (GX.of_gr g4),h4⟩
theorem piece_end {w:World} {R n:Nat} {s:ByteArray} {q:Rs} (h:Rdr w R s n q) (hs:(s.size:Int)<=4096) (A:Pc) (t:Rs) (HA:Calls Tryz.prog 146 #[.pointer (some ⟨R,0,none⟩)] w (RetP R s w A t)) (hb:t.bad=false) (ht:t.rest=[]) :
  Calls Tryz.prog 136 #[.pointer (some ⟨R,0,none⟩)] w (RetP R s w (A) t):=by
 have hR:=h.lt;clear h;go_enter Tryz.func136,Tryz.ntmps136;go_upto_region 2 with (go_at_call 146;refine HA.mono ?_;rintro e w3 ⟨b,m,rfl,k,x,h3⟩)
 clear HA;have QN:=now_end h3 hs ht;go_upto_region 3 with (go_at_call 135;refine QN.mono ?_;rintro e w4 ⟨rfl,g4⟩)
 have h4:=h3.gr g4;clear QN;obtain ⟨c4,f4⟩:=And.intro h4.c4 h4.f4;rw[hb] at c4;go_wp2;go_ret;exact ⟨b,m,rfl,Pc.In.wide (Nat.le_refl _) g4.size _ _ (Pc.In.same (Same.gr g4 (Nat.le_refl _)) _ _ k),x.trans (GX.of_gr g4),h4⟩
theorem piece_no {w:World} {R n:Nat} {s:ByteArray} {q:Rs} (h:Rdr w R s n q) (hs:(s.size:Int)<=4096) (A:Pc) (t:Rs) (HA:Calls Tryz.prog 146 #[.pointer (some ⟨R,0,none⟩)] w (RetP R s w A t)) (hb:t.bad=false) {d:UInt8} {r:List UInt8} (ht:t.rest=d::r) (hd:d.toNat≠42/\d.toNat≠43/\d.toNat≠63) :
  Calls Tryz.prog 136 #[.pointer (some ⟨R,0,none⟩)] w (RetP R s w (A) t):=by
 have hR:=h.lt;clear h;obtain ⟨d42,d43,d63⟩:=hd;have k42:((d.toNat:Int) != 42)=true:=by simp;omega
 have k43:((d.toNat:Int) != 43)=true:=by simp;omega
 have k63:((d.toNat:Int) != 63)=true:=by simp;omega
 go_enter Tryz.func136,Tryz.ntmps136;go_upto_region 2 with (go_at_call 146;refine HA.mono ?_;rintro e w3 ⟨b,m,rfl,k,x,h3⟩)
 clear HA;have QN:=now_some h3 hs ht;go_upto_region 3 with (go_at_call 135;refine QN.mono ?_;rintro e w4 ⟨rfl,g4⟩)
 have h4:=h3.gr g4;clear QN;obtain ⟨c4,f4⟩:=And.intro h4.c4 h4.f4;rw[hb] at c4;go_wp2;go_ret;exact ⟨b,m,rfl,Pc.In.wide (Nat.le_refl _) g4.size _ _ (Pc.In.same (Same.gr g4 (Nat.le_refl _)) _ _ k),x.trans (GX.of_gr g4),h4⟩
theorem piece_rep42true {w:World} {R n:Nat} {s:ByteArray} {q:Rs} (h:Rdr w R s n q) (hs:(s.size:Int)<=4096) (A:Pc) (t:Rs) (HA:Calls Tryz.prog 146 #[.pointer (some ⟨R,0,none⟩)] w (RetP R s w A t)) (hb:t.bad=false) {d:UInt8} {r:List UInt8} (ht:t.rest=d::r) (hd:d.toNat=42) (hz:headIs 63 r=true) :
  Calls Tryz.prog 136 #[.pointer (some ⟨R,0,none⟩)] w (RetP R s w (.rep 42 true A) {t with rest:=r.drop 1}):=by
 have hR:=h.lt;clear h;go_enter Tryz.func136,Tryz.ntmps136;go_upto_region 2 with (go_at_call 146;refine HA.mono ?_;rintro e w3 ⟨b,m,rfl,k,x,h3⟩)
 clear HA;have QN:=now_some h3 hs ht;simp only[hd] at QN;go_upto_region 3 with (go_at_call 135;refine QN.mono ?_;rintro e w4 ⟨rfl,g4⟩)
 have h4:=h3.gr g4;clear QN;obtain ⟨c4,f4⟩:=And.intro h4.c4 h4.f4;rw[hb] at c4;have hle:=h4.len;rw[ht] at hle;simp at hle;have hm:(m:Int)<4096:=by omega
 have hwr:=wrap_in ((m:Int)+1) (by omega) (by omega);clear hle;go_upto_region 5 with (fail)
 obtain ⟨c1,f1⟩:=And.intro h4.c1 h4.f1;clear c4 f4;go_upto_region 6 with (fail)
 have h5:=h4.next ht;have x5:GX R w (w4.setCell ⟨R,1,none⟩ (.int .i64 ((m:Int)+1))):=GX.setCell (p:=⟨R,1,none⟩) (x.trans (GX.of_gr g4)) (.inl rfl) _;have k5:=Pc.In.same (Same.gx (GX.setCell (p:=⟨R,1,none⟩) (GX.of_gr (R:=R) g4) (.inl rfl) (.int .i64 ((m:Int)+1))) (Nat.le_refl _) (by omega)) _ _ k;have k6:=Pc.In.wide (Nat.le_refl _) (GX.setCell (p:=⟨R,1,none⟩) (GX.of_gr (R:=R) g4) (.inl rfl) (.int .i64 ((m:Int)+1))).size _ _ k5;clear c1 f1 h4 g4 h3 x k k5 hwr;generalize (w4.setCell ⟨R,1,none⟩ (.int .i64 ((m:Int)+1)))=w6 at h5 x5 k6 ⊢;have Q7:=λo=>takes_yes (h5.gr (Gr.alloc (Gr.refl w6) o)) hs 63 (by decide) hz;go_wp2_with (go_at_call 109;refine (Q7 _).mono ?_;rintro e w8 ⟨rfl,x8,h8⟩);go_ret;exact RetP.rep _ 42 true hR x5 k6 x8 h8
theorem piece_rep42false {w:World} {R n:Nat} {s:ByteArray} {q:Rs} (h:Rdr w R s n q) (hs:(s.size:Int)<=4096) (A:Pc) (t:Rs) (HA:Calls Tryz.prog 146 #[.pointer (some ⟨R,0,none⟩)] w (RetP R s w A t)) (hb:t.bad=false) {d:UInt8} {r:List UInt8} (ht:t.rest=d::r) (hd:d.toNat=42) (hz:headIs 63 r=false) :
  Calls Tryz.prog 136 #[.pointer (some ⟨R,0,none⟩)] w (RetP R s w (.rep 42 false A) {t with rest:=r}):=by
 have hR:=h.lt;clear h;go_enter Tryz.func136,Tryz.ntmps136;go_upto_region 2 with (go_at_call 146;refine HA.mono ?_;rintro e w3 ⟨b,m,rfl,k,x,h3⟩)
 clear HA;have QN:=now_some h3 hs ht;simp only[hd] at QN;go_upto_region 3 with (go_at_call 135;refine QN.mono ?_;rintro e w4 ⟨rfl,g4⟩)
 have h4:=h3.gr g4;clear QN;obtain ⟨c4,f4⟩:=And.intro h4.c4 h4.f4;rw[hb] at c4;have hle:=h4.len;rw[ht] at hle;simp at hle;have hm:(m:Int)<4096:=by omega
 have hwr:=wrap_in ((m:Int)+1) (by omega) (by omega);clear hle;go_upto_region 5 with (fail)
 obtain ⟨c1,f1⟩:=And.intro h4.c1 h4.f1;clear c4 f4;go_upto_region 6 with (fail)
 have h5:=h4.next ht;have x5:GX R w (w4.setCell ⟨R,1,none⟩ (.int .i64 ((m:Int)+1))):=GX.setCell (p:=⟨R,1,none⟩) (x.trans (GX.of_gr g4)) (.inl rfl) _;have k5:=Pc.In.same (Same.gx (GX.setCell (p:=⟨R,1,none⟩) (GX.of_gr (R:=R) g4) (.inl rfl) (.int .i64 ((m:Int)+1))) (Nat.le_refl _) (by omega)) _ _ k;have k6:=Pc.In.wide (Nat.le_refl _) (GX.setCell (p:=⟨R,1,none⟩) (GX.of_gr (R:=R) g4) (.inl rfl) (.int .i64 ((m:Int)+1))).size _ _ k5;clear c1 f1 h4 g4 h3 x k k5 hwr;generalize (w4.setCell ⟨R,1,none⟩ (.int .i64 ((m:Int)+1)))=w6 at h5 x5 k6 ⊢;have Q7:=λo=>takes_no (h5.gr (Gr.alloc (Gr.refl w6) o)) hs 63 (by decide) hz;go_wp2_with (go_at_call 109;refine (Q7 _).mono ?_;rintro e w8 ⟨rfl,g8⟩;have x8:=GX.of_gr (R:=R) g8;have h8:=(h5.gr (Gr.alloc (Gr.refl w6) _)).gr g8);go_ret;exact RetP.rep _ 42 false hR x5 k6 x8 h8
theorem piece_rep43true {w:World} {R n:Nat} {s:ByteArray} {q:Rs} (h:Rdr w R s n q) (hs:(s.size:Int)<=4096) (A:Pc) (t:Rs) (HA:Calls Tryz.prog 146 #[.pointer (some ⟨R,0,none⟩)] w (RetP R s w A t)) (hb:t.bad=false) {d:UInt8} {r:List UInt8} (ht:t.rest=d::r) (hd:d.toNat=43) (hz:headIs 63 r=true) :
  Calls Tryz.prog 136 #[.pointer (some ⟨R,0,none⟩)] w (RetP R s w (.rep 43 true A) {t with rest:=r.drop 1}):=by
 have hR:=h.lt;clear h;go_enter Tryz.func136,Tryz.ntmps136;go_upto_region 2 with (go_at_call 146;refine HA.mono ?_;rintro e w3 ⟨b,m,rfl,k,x,h3⟩)
 clear HA;have QN:=now_some h3 hs ht;simp only[hd] at QN;go_upto_region 3 with (go_at_call 135;refine QN.mono ?_;rintro e w4 ⟨rfl,g4⟩)
 have h4:=h3.gr g4;clear QN;obtain ⟨c4,f4⟩:=And.intro h4.c4 h4.f4;rw[hb] at c4;have hle:=h4.len;rw[ht] at hle;simp at hle;have hm:(m:Int)<4096:=by omega
 have hwr:=wrap_in ((m:Int)+1) (by omega) (by omega);clear hle;go_upto_region 5 with (fail)
 obtain ⟨c1,f1⟩:=And.intro h4.c1 h4.f1;clear c4 f4;go_upto_region 6 with (fail)
 have h5:=h4.next ht;have x5:GX R w (w4.setCell ⟨R,1,none⟩ (.int .i64 ((m:Int)+1))):=GX.setCell (p:=⟨R,1,none⟩) (x.trans (GX.of_gr g4)) (.inl rfl) _;have k5:=Pc.In.same (Same.gx (GX.setCell (p:=⟨R,1,none⟩) (GX.of_gr (R:=R) g4) (.inl rfl) (.int .i64 ((m:Int)+1))) (Nat.le_refl _) (by omega)) _ _ k;have k6:=Pc.In.wide (Nat.le_refl _) (GX.setCell (p:=⟨R,1,none⟩) (GX.of_gr (R:=R) g4) (.inl rfl) (.int .i64 ((m:Int)+1))).size _ _ k5;clear c1 f1 h4 g4 h3 x k k5 hwr;generalize (w4.setCell ⟨R,1,none⟩ (.int .i64 ((m:Int)+1)))=w6 at h5 x5 k6 ⊢;have Q7:=λo=>takes_yes (h5.gr (Gr.alloc (Gr.refl w6) o)) hs 63 (by decide) hz;go_wp2_with (go_at_call 109;refine (Q7 _).mono ?_;rintro e w8 ⟨rfl,x8,h8⟩);go_ret;exact RetP.rep _ 43 true hR x5 k6 x8 h8
theorem piece_rep43false {w:World} {R n:Nat} {s:ByteArray} {q:Rs} (h:Rdr w R s n q) (hs:(s.size:Int)<=4096) (A:Pc) (t:Rs) (HA:Calls Tryz.prog 146 #[.pointer (some ⟨R,0,none⟩)] w (RetP R s w A t)) (hb:t.bad=false) {d:UInt8} {r:List UInt8} (ht:t.rest=d::r) (hd:d.toNat=43) (hz:headIs 63 r=false) :
  Calls Tryz.prog 136 #[.pointer (some ⟨R,0,none⟩)] w (RetP R s w (.rep 43 false A) {t with rest:=r}):=by
 have hR:=h.lt;clear h;go_enter Tryz.func136,Tryz.ntmps136;go_upto_region 2 with (go_at_call 146;refine HA.mono ?_;rintro e w3 ⟨b,m,rfl,k,x,h3⟩)
 clear HA;have QN:=now_some h3 hs ht;simp only[hd] at QN;go_upto_region 3 with (go_at_call 135;refine QN.mono ?_;rintro e w4 ⟨rfl,g4⟩)
 have h4:=h3.gr g4;clear QN;obtain ⟨c4,f4⟩:=And.intro h4.c4 h4.f4;rw[hb] at c4;have hle:=h4.len;rw[ht] at hle;simp at hle;have hm:(m:Int)<4096:=by omega
 have hwr:=wrap_in ((m:Int)+1) (by omega) (by omega);clear hle;go_upto_region 5 with (fail)
 obtain ⟨c1,f1⟩:=And.intro h4.c1 h4.f1;clear c4 f4;go_upto_region 6 with (fail)
 have h5:=h4.next ht;have x5:GX R w (w4.setCell ⟨R,1,none⟩ (.int .i64 ((m:Int)+1))):=GX.setCell (p:=⟨R,1,none⟩) (x.trans (GX.of_gr g4)) (.inl rfl) _;have k5:=Pc.In.same (Same.gx (GX.setCell (p:=⟨R,1,none⟩) (GX.of_gr (R:=R) g4) (.inl rfl) (.int .i64 ((m:Int)+1))) (Nat.le_refl _) (by omega)) _ _ k;have k6:=Pc.In.wide (Nat.le_refl _) (GX.setCell (p:=⟨R,1,none⟩) (GX.of_gr (R:=R) g4) (.inl rfl) (.int .i64 ((m:Int)+1))).size _ _ k5;clear c1 f1 h4 g4 h3 x k k5 hwr;generalize (w4.setCell ⟨R,1,none⟩ (.int .i64 ((m:Int)+1)))=w6 at h5 x5 k6 ⊢;have Q7:=λo=>takes_no (h5.gr (Gr.alloc (Gr.refl w6) o)) hs 63 (by decide) hz;go_wp2_with (go_at_call 109;refine (Q7 _).mono ?_;rintro e w8 ⟨rfl,g8⟩;have x8:=GX.of_gr (R:=R) g8;have h8:=(h5.gr (Gr.alloc (Gr.refl w6) _)).gr g8);go_ret;exact RetP.rep _ 43 false hR x5 k6 x8 h8
theorem piece_rep63true {w:World} {R n:Nat} {s:ByteArray} {q:Rs} (h:Rdr w R s n q) (hs:(s.size:Int)<=4096) (A:Pc) (t:Rs) (HA:Calls Tryz.prog 146 #[.pointer (some ⟨R,0,none⟩)] w (RetP R s w A t)) (hb:t.bad=false) {d:UInt8} {r:List UInt8} (ht:t.rest=d::r) (hd:d.toNat=63) (hz:headIs 63 r=true) :
  Calls Tryz.prog 136 #[.pointer (some ⟨R,0,none⟩)] w (RetP R s w (.rep 63 true A) {t with rest:=r.drop 1}):=by
 have hR:=h.lt;clear h;go_enter Tryz.func136,Tryz.ntmps136;go_upto_region 2 with (go_at_call 146;refine HA.mono ?_;rintro e w3 ⟨b,m,rfl,k,x,h3⟩)
 clear HA;have QN:=now_some h3 hs ht;simp only[hd] at QN;go_upto_region 3 with (go_at_call 135;refine QN.mono ?_;rintro e w4 ⟨rfl,g4⟩)
 have h4:=h3.gr g4;clear QN;obtain ⟨c4,f4⟩:=And.intro h4.c4 h4.f4;rw[hb] at c4;have hle:=h4.len;rw[ht] at hle;simp at hle;have hm:(m:Int)<4096:=by omega
 have hwr:=wrap_in ((m:Int)+1) (by omega) (by omega);clear hle;go_upto_region 5 with (fail)
 obtain ⟨c1,f1⟩:=And.intro h4.c1 h4.f1;clear c4 f4;go_upto_region 6 with (fail)
 have h5:=h4.next ht;have x5:GX R w (w4.setCell ⟨R,1,none⟩ (.int .i64 ((m:Int)+1))):=GX.setCell (p:=⟨R,1,none⟩) (x.trans (GX.of_gr g4)) (.inl rfl) _;have k5:=Pc.In.same (Same.gx (GX.setCell (p:=⟨R,1,none⟩) (GX.of_gr (R:=R) g4) (.inl rfl) (.int .i64 ((m:Int)+1))) (Nat.le_refl _) (by omega)) _ _ k;have k6:=Pc.In.wide (Nat.le_refl _) (GX.setCell (p:=⟨R,1,none⟩) (GX.of_gr (R:=R) g4) (.inl rfl) (.int .i64 ((m:Int)+1))).size _ _ k5;clear c1 f1 h4 g4 h3 x k k5 hwr;generalize (w4.setCell ⟨R,1,none⟩ (.int .i64 ((m:Int)+1)))=w6 at h5 x5 k6 ⊢;have Q7:=λo=>takes_yes (h5.gr (Gr.alloc (Gr.refl w6) o)) hs 63 (by decide) hz;go_wp2_with (go_at_call 109;refine (Q7 _).mono ?_;rintro e w8 ⟨rfl,x8,h8⟩);go_ret;exact RetP.rep _ 63 true hR x5 k6 x8 h8
theorem piece_rep63false {w:World} {R n:Nat} {s:ByteArray} {q:Rs} (h:Rdr w R s n q) (hs:(s.size:Int)<=4096) (A:Pc) (t:Rs) (HA:Calls Tryz.prog 146 #[.pointer (some ⟨R,0,none⟩)] w (RetP R s w A t)) (hb:t.bad=false) {d:UInt8} {r:List UInt8} (ht:t.rest=d::r) (hd:d.toNat=63) (hz:headIs 63 r=false) :
  Calls Tryz.prog 136 #[.pointer (some ⟨R,0,none⟩)] w (RetP R s w (.rep 63 false A) {t with rest:=r}):=by
 have hR:=h.lt;clear h;go_enter Tryz.func136,Tryz.ntmps136;go_upto_region 2 with (go_at_call 146;refine HA.mono ?_;rintro e w3 ⟨b,m,rfl,k,x,h3⟩)
 clear HA;have QN:=now_some h3 hs ht;simp only[hd] at QN;go_upto_region 3 with (go_at_call 135;refine QN.mono ?_;rintro e w4 ⟨rfl,g4⟩)
 have h4:=h3.gr g4;clear QN;obtain ⟨c4,f4⟩:=And.intro h4.c4 h4.f4;rw[hb] at c4;have hle:=h4.len;rw[ht] at hle;simp at hle;have hm:(m:Int)<4096:=by omega
 have hwr:=wrap_in ((m:Int)+1) (by omega) (by omega);clear hle;go_upto_region 5 with (fail)
 obtain ⟨c1,f1⟩:=And.intro h4.c1 h4.f1;clear c4 f4;go_upto_region 6 with (fail)
 have h5:=h4.next ht;have x5:GX R w (w4.setCell ⟨R,1,none⟩ (.int .i64 ((m:Int)+1))):=GX.setCell (p:=⟨R,1,none⟩) (x.trans (GX.of_gr g4)) (.inl rfl) _;have k5:=Pc.In.same (Same.gx (GX.setCell (p:=⟨R,1,none⟩) (GX.of_gr (R:=R) g4) (.inl rfl) (.int .i64 ((m:Int)+1))) (Nat.le_refl _) (by omega)) _ _ k;have k6:=Pc.In.wide (Nat.le_refl _) (GX.setCell (p:=⟨R,1,none⟩) (GX.of_gr (R:=R) g4) (.inl rfl) (.int .i64 ((m:Int)+1))).size _ _ k5;clear c1 f1 h4 g4 h3 x k k5 hwr;generalize (w4.setCell ⟨R,1,none⟩ (.int .i64 ((m:Int)+1)))=w6 at h5 x5 k6 ⊢;have Q7:=λo=>takes_no (h5.gr (Gr.alloc (Gr.refl w6) o)) hs 63 (by decide) hz;go_wp2_with (go_at_call 109;refine (Q7 _).mono ?_;rintro e w8 ⟨rfl,g8⟩;have x8:=GX.of_gr (R:=R) g8;have h8:=(h5.gr (Gr.alloc (Gr.refl w6) _)).gr g8);go_ret;exact RetP.rep _ 63 false hR x5 k6 x8 h8
theorem piece_all {w:World} {R n:Nat} {s:ByteArray} {q:Rs} (Wf:Rs->Pc×Rs) (h:Rdr w R s n q) (hs:(s.size:Int)<=4096) {c:UInt8} {r:List UInt8} (hq:q.rest=c::r)
  (HG:∀W,Rdr W R s (n+1) {q with rest:=r}->Calls Tryz.prog 152 #[.pointer (some ⟨R,0,none⟩)] W (RetP R s W (groupS Wf {q with rest:=r}).1 (groupS Wf {q with rest:=r}).2)) :
  Calls Tryz.prog 136 #[.pointer (some ⟨R,0,none⟩)] w (RetP R s w (pieceS Wf q).1 (pieceS Wf q).2):=by
 have HA:=atom_all Wf h hs hq HG;unfold pieceS;generalize atomS Wf q=T at HA ⊢;obtain ⟨A,t⟩:=T;simp only at HA ⊢;rcases Bool.eq_false_or_eq_true t.bad with hb|hb
 ·rw[hb];exact piece_bad h hs A t HA hb
 ·match e:t.rest with
  | []=>rw[hb];exact piece_end h hs A t HA hb e
  | d::u=>
   simp only;have hbt:(bif t.bad then (A,t) else bif repC d.toNat then (Pc.rep d.toNat (headIs 63 u) A,{t with rest:=bif headIs 63 u then u.drop 1 else u}) else (A,t))=bif repC d.toNat then (Pc.rep d.toNat (headIs 63 u) A,{t with rest:=bif headIs 63 u then u.drop 1 else u}) else (A,t):=by rw[hb];rfl
   rw[hbt];by_cases h42:d.toNat=42
   ·rw[h42];cases hz:headIs 63 u
    ·exact piece_rep42false h hs A t HA hb e h42 hz
    ·exact piece_rep42true h hs A t HA hb e h42 hz
   by_cases h43:d.toNat=43
   ·rw[h43];cases hz:headIs 63 u
    ·exact piece_rep43false h hs A t HA hb e h43 hz
    ·exact piece_rep43true h hs A t HA hb e h43 hz
   by_cases h63:d.toNat=63
   ·rw[h63];cases hz:headIs 63 u
    ·exact piece_rep63false h hs A t HA hb e h63 hz
    ·exact piece_rep63true h hs A t HA hb e h63 hz
   have hst:repC d.toNat=false:=by
    unfold repC;rw[beq_eq_false_iff_ne.2 h42,beq_eq_false_iff_ne.2 h43,beq_eq_false_iff_ne.2 h63];rfl
   rw[hst];exact piece_no h hs A t HA hb e ⟨h42,h43,h63⟩
end Go.Proofs.YtjapddfnpmlifaaGreatDoor
