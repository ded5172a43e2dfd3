import Derived.Test.YtoncapkmaeghfaaGreatRunAgOf
import Derived.Test.YtoncapkmaeghfaaGreatRunWhFit
import Derived.Test.YtoncapkmaeghfaaGreatRunVfWrt
import Derived.Test.YtoncapkmaeghfaaGreatRunRegR
import Derived.Test.YtoncapkmaeghfaaGreatRunRwMem
import Derived.Test.YtoncapkmaeghfaaGreatRunVfMap
import Derived.Test.YtoncapkmaeghfaaGreatVfShelf
set_option linter.all false
set_option maxRecDepth 1000000
set_option maxHeartbeats 12800000
namespace Go.Proofs.YtoncapkmaeghfaaGreat
open Go.RowKit
def heldI (n:Int):Int:=max 0 (min n 16777216)
theorem heldI_lo (n:Int):0≤heldI n:=by unfold heldI;omega
theorem heldI_hi (n:Int):heldI n≤16777216:=by unfold heldI;omega
def enX (x k a:Int):Bool:=decide (0<k)&&decide (k≤a)&&decide (x*a≤k*1000000)
def enB (xff k a:Int):Bool:=enX (heldI xff) (heldI k) (heldI a)
def putV (kind xff:Int) (l:List Vl):Vl:=bif enB xff (kn l).length l.length then aggV kind l else ⟨false,0⟩
theorem mul_lo {x a:Int} (h:0≤x) (h':0≤a):0≤x*a:=Int.mul_nonneg h h'
theorem mul_hi {x a:Int} (_h:0≤x) (h':0≤a) (hx:x≤16777216) (ha:a≤16777216):x*a≤281474976710656:=by
 have h1:x*a≤16777216*a:=Int.mul_le_mul_of_nonneg_right hx h'
 omega
theorem held_any (n:Int) (w:World) :
  Calls Tryz.prog 123 #[.int .i64 n] w fun e w'=>e= .returned (.int .i64 (heldI n))∧Gr w w':=by
 go_enter Tryz.func123,Tryz.ntmps123
 go_wp2
 go_ret
 exact ⟨rfl,Gr.refl _⟩
theorem enough_any (xff k a:Int) (w:World) :
  Calls Tryz.prog 113 #[.int .i64 xff, .int .i64 k, .int .i64 a] w fun e w'=>e= .returned (.bool (enB xff k a))∧Gr w w':=by
 obtain ⟨X,hX⟩:∃X,heldI xff=X:=⟨_,rfl⟩
 obtain ⟨Y,hY⟩:∃Y,heldI k=Y:=⟨_,rfl⟩
 obtain ⟨Z,hZ⟩:∃Z,heldI a=Z:=⟨_,rfl⟩
 have X0:=heldI_lo xff
 have X1:=heldI_hi xff
 have Y0:=heldI_lo k
 have Y1:=heldI_hi k
 have Z0:=heldI_lo a
 have Z1:=heldI_hi a
 rw[hX] at X0 X1
 rw[hY] at Y0 Y1
 rw[hZ] at Z0 Z1
 have m0:=mul_lo X0 Z0
 have m1:=mul_hi X0 Z0 X1 Z1
 have hE:enB xff k a=enX X Y Z:=by unfold enB;rw[hX,hY,hZ]
 rw[hE];clear hE
 by_cases h1:0<Y
 ·
  by_cases h2:Y≤Z
  ·
   have hv:enX X Y Z=decide (X*Z≤Y*1000000):=by simp[enX,h1,h2]
   rw[hv];clear hv
   go_enter Tryz.func113,Tryz.ntmps113
   go_wp2_with fail
   refine (held_any xff _).mono ?_;rintro e w1 ⟨rfl,hg1⟩
   rw[hX]
   go_wp2_with fail
   refine (held_any k _).mono ?_;rintro e w2 ⟨rfl,hg2⟩
   rw[hY]
   go_wp2_with fail
   refine (held_any a _).mono ?_;rintro e w3 ⟨rfl,hg3⟩
   rw[hZ]
   have hgw:Gr w w3:=Gr.trans hg1 (Gr.trans hg2 hg3)
   clear hg1 hg2 hg3
   have HX:=Lib.hid hX;clear hX
   have HY:=Lib.hid hY;clear hY
   have HZ:=Lib.hid hZ;clear hZ
   go_wp2
   go_ret
   exact ⟨rfl,hgw⟩
  ·
   have hv:enX X Y Z=false:=by simp[enX,h1,h2]
   rw[hv];clear hv
   go_enter Tryz.func113,Tryz.ntmps113
   go_wp2_with fail
   refine (held_any xff _).mono ?_;rintro e w1 ⟨rfl,hg1⟩
   rw[hX]
   go_wp2_with fail
   refine (held_any k _).mono ?_;rintro e w2 ⟨rfl,hg2⟩
   rw[hY]
   go_wp2_with fail
   refine (held_any a _).mono ?_;rintro e w3 ⟨rfl,hg3⟩
   rw[hZ]
   have hgw:Gr w w3:=Gr.trans hg1 (Gr.trans hg2 hg3)
   clear hg1 hg2 hg3
   have HX:=Lib.hid hX;clear hX
   have HY:=Lib.hid hY;clear hY
   have HZ:=Lib.hid hZ;clear hZ
   go_wp2
   go_ret
   exact ⟨rfl,hgw⟩
 ·
  have hv:enX X Y Z=false:=by simp[enX,h1]
  rw[hv];clear hv
  go_enter Tryz.func113,Tryz.ntmps113
  go_wp2_with fail
  refine (held_any xff _).mono ?_;rintro e w1 ⟨rfl,hg1⟩
  rw[hX]
  go_wp2_with fail
  refine (held_any k _).mono ?_;rintro e w2 ⟨rfl,hg2⟩
  rw[hY]
  go_wp2_with fail
  refine (held_any a _).mono ?_;rintro e w3 ⟨rfl,hg3⟩
  rw[hZ]
  have hgw:Gr w w3:=Gr.trans hg1 (Gr.trans hg2 hg3)
  clear hg1 hg2 hg3
  have HX:=Lib.hid hX;clear hX
  have HY:=Lib.hid hY;clear hY
  have HZ:=Lib.hid hZ;clear hZ
  go_wp2
  go_ret
  exact ⟨rfl,hgw⟩
theorem put_any (kind xff:Int) (A:Option Addr) (c:Nat) (l:List Vl) (w:World) (hl:l.length≤1000000) (hr:Rv w A l) :
  Calls Tryz.prog 106 #[.int .i64 kind, .int .i64 xff, .slice A l.length c] w fun e w'=>e= .returned (.agg #[.bool (putV kind xff l).ok, .int .i64 (putV kind xff l).n])∧Gr w w':=by
 cases hen:enB xff (kn l).length l.length
 ·
  have hv:putV kind xff l=⟨false,0⟩:=by simp[putV,hen]
  rw[hv];clear hv
  go_enter Tryz.func106,Tryz.ntmps106
  go_wp2_with fail
  refine (known_vals_any A c l _ hl (hr.gr (Gr.alloc (Gr.refl _) _))).mono ?_;rintro e w1 ⟨A',c',rfl,hrv,hg⟩
  have hl':=hrv.1
  obtain ⟨hc,hf⟩:=hg.cells
  have z0:w.heap.size<w1.heap.size:=by have:=hg.size;simp at this;omega
  have q0:w1.cell? ⟨w.heap.size,0,none⟩=some (.bool false):=by go_simp
  have q1:w1.cell? ⟨w.heap.size,1,none⟩=some (.int .i64 0):=by go_simp
  have f0:w1.frozen? ⟨w.heap.size,0,none⟩=false:=by go_simp
  have f1:w1.frozen? ⟨w.heap.size,1,none⟩=false:=by go_simp
  have hgw:Gr w w1:=gq
  clear hc hf hg hl'
  go_wp2_with fail
  refine (enough_any xff (kn l).length l.length _).mono ?_;rintro e w2 ⟨rfl,hg2⟩
  rw[hen]
  have HEN:=Lib.hid hen;clear hen
  have hga:Gr w w2:=Gr.trans hgw hg2
  have x0:=(hg2.cell (p:=⟨w.heap.size,0,none⟩) z0).trans q0
  have x1:=(hg2.cell (p:=⟨w.heap.size,1,none⟩) z0).trans q1
  have y0:=(hg2.frozen (p:=⟨w.heap.size,0,none⟩) z0).trans f0
  have y1:=(hg2.frozen (p:=⟨w.heap.size,1,none⟩) z0).trans f1
  have z1:=Nat.lt_of_lt_of_le z0 hg2.size
  go_wp2
  exact bodyPost_ret (v:= .agg #[.bool false, .int .i64 0]) (by simp[results,Tryz.results106,go_sem, *]) rfl ⟨rfl,gq⟩
 ·
  have hv:putV kind xff l=aggV kind l:=by simp[putV,hen]
  rw[hv];clear hv
  go_enter Tryz.func106,Tryz.ntmps106
  go_wp2_with fail
  refine (known_vals_any A c l _ hl (hr.gr (Gr.alloc (Gr.refl _) _))).mono ?_;rintro e w1 ⟨A',c',rfl,hrv,hg⟩
  have hl':=hrv.1
  obtain ⟨hc,hf⟩:=hg.cells
  have z0:w.heap.size<w1.heap.size:=by have:=hg.size;simp at this;omega
  have q0:w1.cell? ⟨w.heap.size,0,none⟩=some (.bool false):=by go_simp
  have q1:w1.cell? ⟨w.heap.size,1,none⟩=some (.int .i64 0):=by go_simp
  have f0:w1.frozen? ⟨w.heap.size,0,none⟩=false:=by go_simp
  have f1:w1.frozen? ⟨w.heap.size,1,none⟩=false:=by go_simp
  have hgw:Gr w w1:=gq
  clear hc hf hg hl'
  go_wp2_with fail
  refine (enough_any xff (kn l).length l.length _).mono ?_;rintro e w2 ⟨rfl,hg2⟩
  rw[hen]
  have HEN:=Lib.hid hen;clear hen
  have hga:Gr w w2:=Gr.trans hgw hg2
  go_wp2_with fail
  refine (agg_of_any kind A c l _ hl (hr.gr hga)).mono ?_;rintro e w3 ⟨rfl,hg3⟩
  have hgb:Gr w1 w3:=Gr.trans hg2 hg3
  have hgc:Gr w w3:=Gr.trans hga hg3
  have x0:=(hgb.cell (p:=⟨w.heap.size,0,none⟩) z0).trans q0
  have x1:=(hgb.cell (p:=⟨w.heap.size,1,none⟩) z0).trans q1
  have y0:=(hgb.frozen (p:=⟨w.heap.size,0,none⟩) z0).trans f0
  have y1:=(hgb.frozen (p:=⟨w.heap.size,1,none⟩) z0).trans f1
  have z1:=Nat.lt_of_lt_of_le z0 hgb.size
  go_wp2
  exact bodyPost_ret (v:= .agg #[.bool (aggV kind l).ok, .int .i64 (aggV kind l).n]) (by simp[results,Tryz.results106,go_sem, *]) rfl ⟨rfl,gq⟩
theorem rheld_any (n:Int) (w:World) :
  Calls Tryz.prog 116 #[.int .i64 n] w fun e w'=>e= .returned (.int .i64 (heldI n))∧Gr w w':=by
 go_enter Tryz.func116,Tryz.ntmps116
 go_wp2
 go_ret
 exact ⟨rfl,Gr.refl _⟩
theorem renough_any (xff k a:Int) (w:World) :
  Calls Tryz.prog 109 #[.int .i64 xff, .int .i64 k, .int .i64 a] w fun e w'=>e= .returned (.bool (enB xff k a))∧Gr w w':=by
 obtain ⟨X,hX⟩:∃X,heldI xff=X:=⟨_,rfl⟩
 obtain ⟨Y,hY⟩:∃Y,heldI k=Y:=⟨_,rfl⟩
 obtain ⟨Z,hZ⟩:∃Z,heldI a=Z:=⟨_,rfl⟩
 have X0:=heldI_lo xff
 have X1:=heldI_hi xff
 have Y0:=heldI_lo k
 have Y1:=heldI_hi k
 have Z0:=heldI_lo a
 have Z1:=heldI_hi a
 rw[hX] at X0 X1
 rw[hY] at Y0 Y1
 rw[hZ] at Z0 Z1
 have m0:=mul_lo X0 Z0
 have m1:=mul_hi X0 Z0 X1 Z1
 have hE:enB xff k a=enX X Y Z:=by unfold enB;rw[hX,hY,hZ]
 rw[hE];clear hE
 by_cases h1:0<Y
 ·
  by_cases h2:Y≤Z
  ·
   have hv:enX X Y Z=decide (X*Z≤Y*1000000):=by simp[enX,h1,h2]
   rw[hv];clear hv
   go_enter Tryz.func109,Tryz.ntmps109
   go_wp2_with fail
   refine (rheld_any xff _).mono ?_;rintro e w1 ⟨rfl,hg1⟩
   rw[hX]
   go_wp2_with fail
   refine (rheld_any k _).mono ?_;rintro e w2 ⟨rfl,hg2⟩
   rw[hY]
   go_wp2_with fail
   refine (rheld_any a _).mono ?_;rintro e w3 ⟨rfl,hg3⟩
   rw[hZ]
   have hgw:Gr w w3:=Gr.trans hg1 (Gr.trans hg2 hg3)
   clear hg1 hg2 hg3
   have HX:=Lib.hid hX;clear hX
   have HY:=Lib.hid hY;clear hY
   have HZ:=Lib.hid hZ;clear hZ
   go_wp2
   go_ret
   exact ⟨rfl,hgw⟩
  ·
   have hv:enX X Y Z=false:=by simp[enX,h1,h2]
   rw[hv];clear hv
   go_enter Tryz.func109,Tryz.ntmps109
   go_wp2_with fail
   refine (rheld_any xff _).mono ?_;rintro e w1 ⟨rfl,hg1⟩
   rw[hX]
   go_wp2_with fail
   refine (rheld_any k _).mono ?_;rintro e w2 ⟨rfl,hg2⟩
   rw[hY]
   go_wp2_with fail
   refine (rheld_any a _).mono ?_;rintro e w3 ⟨rfl,hg3⟩
   rw[hZ]
   have hgw:Gr w w3:=Gr.trans hg1 (Gr.trans hg2 hg3)
   clear hg1 hg2 hg3
   have HX:=Lib.hid hX;clear hX
   have HY:=Lib.hid hY;clear hY
   have HZ:=Lib.hid hZ;clear hZ
   go_wp2
   go_ret
   exact ⟨rfl,hgw⟩
 ·
  have hv:enX X Y Z=false:=by simp[enX,h1]
  rw[hv];clear hv
  go_enter Tryz.func109,Tryz.ntmps109
  go_wp2_with fail
  refine (rheld_any xff _).mono ?_;rintro e w1 ⟨rfl,hg1⟩
  rw[hX]
  go_wp2_with fail
  refine (rheld_any k _).mono ?_;rintro e w2 ⟨rfl,hg2⟩
  rw[hY]
  go_wp2_with fail
  refine (rheld_any a _).mono ?_;rintro e w3 ⟨rfl,hg3⟩
  rw[hZ]
  have hgw:Gr w w3:=Gr.trans hg1 (Gr.trans hg2 hg3)
  clear hg1 hg2 hg3
  have HX:=Lib.hid hX;clear hX
  have HY:=Lib.hid hY;clear hY
  have HZ:=Lib.hid hZ;clear hZ
  go_wp2
  go_ret
  exact ⟨rfl,hgw⟩
theorem rput_any (kind xff:Int) (A:Option Addr) (c:Nat) (l:List Vl) (w:World) (hl:l.length≤1000000) (hr:Rv w A l) :
  Calls Tryz.prog 102 #[.int .i64 kind, .int .i64 xff, .slice A l.length c] w fun e w'=>e= .returned (.agg #[.bool (putV kind xff l).ok, .int .i64 (putV kind xff l).n])∧Gr w w':=by
 cases hen:enB xff (kn l).length l.length
 ·
  have hv:putV kind xff l=⟨false,0⟩:=by simp[putV,hen]
  rw[hv];clear hv
  go_enter Tryz.func102,Tryz.ntmps102
  go_wp2_with fail
  refine (rknown_vals_any A c l _ hl (hr.gr (Gr.alloc (Gr.refl _) _))).mono ?_;rintro e w1 ⟨A',c',rfl,hrv,hg⟩
  have hl':=hrv.1
  obtain ⟨hc,hf⟩:=hg.cells
  have z0:w.heap.size<w1.heap.size:=by have:=hg.size;simp at this;omega
  have q0:w1.cell? ⟨w.heap.size,0,none⟩=some (.bool false):=by go_simp
  have q1:w1.cell? ⟨w.heap.size,1,none⟩=some (.int .i64 0):=by go_simp
  have f0:w1.frozen? ⟨w.heap.size,0,none⟩=false:=by go_simp
  have f1:w1.frozen? ⟨w.heap.size,1,none⟩=false:=by go_simp
  have hgw:Gr w w1:=gq
  clear hc hf hg hl'
  go_wp2_with fail
  refine (renough_any xff (kn l).length l.length _).mono ?_;rintro e w2 ⟨rfl,hg2⟩
  rw[hen]
  have HEN:=Lib.hid hen;clear hen
  have hga:Gr w w2:=Gr.trans hgw hg2
  have x0:=(hg2.cell (p:=⟨w.heap.size,0,none⟩) z0).trans q0
  have x1:=(hg2.cell (p:=⟨w.heap.size,1,none⟩) z0).trans q1
  have y0:=(hg2.frozen (p:=⟨w.heap.size,0,none⟩) z0).trans f0
  have y1:=(hg2.frozen (p:=⟨w.heap.size,1,none⟩) z0).trans f1
  have z1:=Nat.lt_of_lt_of_le z0 hg2.size
  go_wp2
  exact bodyPost_ret (v:= .agg #[.bool false, .int .i64 0]) (by simp[results,Tryz.results102,go_sem, *]) rfl ⟨rfl,gq⟩
 ·
  have hv:putV kind xff l=aggV kind l:=by simp[putV,hen]
  rw[hv];clear hv
  go_enter Tryz.func102,Tryz.ntmps102
  go_wp2_with fail
  refine (rknown_vals_any A c l _ hl (hr.gr (Gr.alloc (Gr.refl _) _))).mono ?_;rintro e w1 ⟨A',c',rfl,hrv,hg⟩
  have hl':=hrv.1
  obtain ⟨hc,hf⟩:=hg.cells
  have z0:w.heap.size<w1.heap.size:=by have:=hg.size;simp at this;omega
  have q0:w1.cell? ⟨w.heap.size,0,none⟩=some (.bool false):=by go_simp
  have q1:w1.cell? ⟨w.heap.size,1,none⟩=some (.int .i64 0):=by go_simp
  have f0:w1.frozen? ⟨w.heap.size,0,none⟩=false:=by go_simp
  have f1:w1.frozen? ⟨w.heap.size,1,none⟩=false:=by go_simp
  have hgw:Gr w w1:=gq
  clear hc hf hg hl'
  go_wp2_with fail
  refine (renough_any xff (kn l).length l.length _).mono ?_;rintro e w2 ⟨rfl,hg2⟩
  rw[hen]
  have HEN:=Lib.hid hen;clear hen
  have hga:Gr w w2:=Gr.trans hgw hg2
  go_wp2_with fail
  refine (ragg_of_any kind A c l _ hl (hr.gr hga)).mono ?_;rintro e w3 ⟨rfl,hg3⟩
  have hgb:Gr w1 w3:=Gr.trans hg2 hg3
  have hgc:Gr w w3:=Gr.trans hga hg3
  have x0:=(hgb.cell (p:=⟨w.heap.size,0,none⟩) z0).trans q0
  have x1:=(hgb.cell (p:=⟨w.heap.size,1,none⟩) z0).trans q1
  have y0:=(hgb.frozen (p:=⟨w.heap.size,0,none⟩) z0).trans f0
  have y1:=(hgb.frozen (p:=⟨w.heap.size,1,none⟩) z0).trans f1
  have z1:=Nat.lt_of_lt_of_le z0 hgb.size
  go_wp2
  exact bodyPost_ret (v:= .agg #[.bool (aggV kind l).ok, .int .i64 (aggV kind l).n]) (by simp[results,Tryz.results102,go_sem, *]) rfl ⟨rfl,gq⟩
abbrev Arcs:=List (Nat×Nat)
def stpS (m:Arcs) (i:Nat):Nat:=(m.getD i (0,0)).1
def cntS (m:Arcs) (i:Nat):Nat:=(m.getD i (0,0)).2
theorem stpS_at {m:Arcs} {i:Nat} (h:i<m.length):stpS m i=m[i].1:=by unfold stpS;rw[List.getD_eq_getElem?_getD,List.getElem?_eq_getElem h];rfl
theorem cntS_at {m:Arcs} {i:Nat} (h:i<m.length):cntS m i=m[i].2:=by unfold cntS;rw[List.getD_eq_getElem?_getD,List.getElem?_eq_getElem h];rfl
def atS (m:Arcs) (i:Nat) (t:Int):Nat:=offS m i+12*(placeS (stpS m i) (cntS m i) t).toNat
def slotS (D:List UInt8) (k:Nat):List UInt8:=(D.drop k).take 12
def seenS (m:Arcs) (D:List UInt8) (i:Nat) (t:Int):Vl:=if decT (slotS D (atS m i t))=t then ofV (decN (slotS D (atS m i t))) else ⟨false,0⟩
def hasV (m:Arcs) (D:List UInt8) (i:Nat) (t:Int):Vl:=if alignS t (stpS m i)<1 then ⟨false,0⟩ else seenS m D i (alignS t (stpS m i))
def layS (m:Arcs) (D:List UInt8) (i:Nat) (t n:Int):List UInt8:=putB D (atS m i t) (encP t n)
def reachB (a:Nat×Nat) (t now:Int):Bool:=decide (t≤now)&&decide (now-t<(a.1:Int)*a.2)
def firstS (m:Arcs) (t now:Int):Nat:=m.findIdx fun a=>reachB a t now
def gathL (m:Arcs) (D:List UInt8) (i:Nat) (t:Int):List Vl:=(List.range (stpS m i/stpS m (i-1))).map fun (k:Nat)=>hasV m D (i-1) (t+k*stpS m (i-1))
def gathV (ag xf:Int) (m:Arcs) (D:List UInt8) (i:Nat) (t:Int):Vl:=putV ag xf (gathL m D i (alignS t (stpS m i)))
def gathS (ag xf:Int) (m:Arcs) (D:List UInt8) (i:Nat) (t:Int):Option (List UInt8):=
 if (gathV ag xf m D i t).ok=true∧1≤alignS t (stpS m i) then some (layS m D i (alignS t (stpS m i)) (gathV ag xf m D i t).n) else none
def upS (ag xf:Int) (m:Arcs) (t:Int):Nat→Nat→List UInt8→List UInt8
 | _,0,D=>D
 | i,k+1,D=>match gathS ag xf m D i t with
  | none=>D
  | some D'=>upS ag xf m t (i+1) k D'
def laysS (ag xf:Int) (m:Arcs) (D:List UInt8) (t n now:Int):Option (List UInt8):=
 if t<1∨now<t∨(ofV n).ok=false then none
 else if firstS m t now=m.length then none
 else if alignS t (stpS m (firstS m t now))<1 then none
 else some (upS ag xf m t (firstS m t now+1) (m.length-(firstS m t now+1)) (layS m D (firstS m t now) (alignS t (stpS m (firstS m t now))) n))
def updS (ag xf:Int) (m:Arcs) (now:Int):List (Int×Int)→Nat×List UInt8→Nat×List UInt8
 | [],s=>s
 | p::r,s=>match laysS ag xf m s.2 p.1 p.2 now with
  | none=>updS ag xf m now r s
  | some D=>updS ag xf m now r (s.1+1,D)
theorem placeS_nat {m:Arcs} {i:Nat} (h:1≤cntS m i) (t:Int):(placeS (stpS m i) (cntS m i) t).toNat<cntS m i:=by
 have:=placeS_lt (t:=t) (step:=(stpS m i:Int)) (count:=(cntS m i:Int)) (by omega)
 omega
structure MayF (m:Arcs):Prop where
 l1:1≤m.length
 l8:m.length≤8
 sz:sizeS m≤1048576
 last:(lastS m).1*(lastS m).2≤4294967295
 s1:∀i,i<m.length→1≤stpS m i∧stpS m i≤16777216
 c1:∀i,i<m.length→1≤cntS m i∧cntS m i≤16777216
theorem MayF.of {m:Arcs} (h:mayS m=true):MayF m:=by
 obtain ⟨h1,h2,h3,h4,h5⟩:=mayS_facts h
 refine ⟨h1,h2,h3,h4,fun i hi=>?_,fun i hi=>?_⟩
 ·
  rw[stpS_at hi];exact ⟨(h5 i hi).1,(h5 i hi).2.1⟩
 ·
  rw[cntS_at hi];exact ⟨(h5 i hi).2.2.1,(h5 i hi).2.2.2⟩
theorem MayF.ofH {ag xf:Int} {m:Arcs} (h:mayH ag xf (ints m)=true):MayF m:= .of (by unfold mayH at h;rw[Bool.and_eq_true,nats_ints] at h;exact h.2)
theorem atS_in {m:Arcs} (h:MayF m) {i:Nat} (hi:i<m.length) (t:Int):16≤atS m i t∧atS m i t+12≤sizeS m:=by
 have h1:=placeS_nat (h.c1 i hi).1 t
 have h2:=offS_succ hi
 have h3:=offS_le (m:=m) (i:=i+1) (by omega)
 rw[cntS_at hi] at h1
 have h4:16≤offS m i:=by unfold offS;omega
 unfold atS
 rw[cntS_at hi]
 omega
theorem layS_len {m:Arcs} (h:MayF m) {D:List UInt8} (hD:D.length=sizeS m) {i:Nat} (hi:i<m.length) (t n:Int):(layS m D i t n).length=sizeS m:=by
 unfold layS
 rw[putB_len (by rw[encP_len,hD];exact (atS_in h hi t).2),hD]
theorem gathS_len {ag xf:Int} {m:Arcs} (h:MayF m) {D D':List UInt8} (hD:D.length=sizeS m) {i:Nat} (hi:i<m.length) {t:Int} (e:gathS ag xf m D i t=some D'):D'.length=sizeS m:=by
 unfold gathS at e
 split at e
 ·
  injection e with e
  rw[←e]
  exact layS_len h hD hi _ _
 ·
  cases e
theorem upS_len {ag xf:Int} {m:Arcs} (h:MayF m) {t:Int}:∀(k i:Nat) (D:List UInt8),i+k=m.length→D.length=sizeS m→(upS ag xf m t i k D).length=sizeS m
 | 0,_,_,_,hD=>hD
 | k+1,i,D,hk,hD=>by
  rw[upS]
  cases e:gathS ag xf m D i t with
  | none=>exact hD
  | some D'=>exact upS_len h k (i+1) D' (by omega) (gathS_len h hD (by omega) e)
theorem firstS_le (m:Arcs) (t now:Int):firstS m t now≤m.length:=List.findIdx_le_length
theorem laysS_len {ag xf:Int} {m:Arcs} (h:MayF m) {D D':List UInt8} (hD:D.length=sizeS m) {t n now:Int} (e:laysS ag xf m D t n now=some D'):D'.length=sizeS m:=by
 have hf:=firstS_le m t now
 unfold laysS at e
 split at e
 ·
  cases e
 ·
  split at e
  ·
   cases e
  ·
   split at e
   ·
    cases e
   ·
    injection e with e
    rw[←e]
    exact upS_len h _ _ _ (by omega) (layS_len h hD (by omega) _ _)
theorem updS_len {ag xf:Int} {m:Arcs} (h:MayF m) {now:Int}:∀(l:List (Int×Int)) (s:Nat×List UInt8),s.2.length=sizeS m→(updS ag xf m now l s).2.length=sizeS m
 | [],_,hs=>hs
 | p::r,s,hs=>by
  rw[updS]
  cases e:laysS ag xf m s.2 p.1 p.2 now with
  | none=>exact updS_len h r s hs
  | some D=>exact updS_len h r _ (laysS_len h hs e)
def whichS (m:Arcs) (d:Int):Nat:=(m.take (m.length-1)).findIdx fun a=>decide (d≤(a.1:Int)*a.2)
theorem whichS_lt {m:Arcs} (h:1≤m.length) (d:Int):whichS m d<m.length:=by
 have:whichS m d≤(m.take (m.length-1)).length:=List.findIdx_le_length
 rw[List.length_take] at this
 omega
def spanS (m:Arcs):Nat:=(lastS m).1*(lastS m).2
def frS (m:Arcs) (now frm:Int):Int:=max (max 0 frm) (now-spanS m)
def startS (m:Arcs) (i:Nat) (fr:Int):Int:=alignS (fr+stpS m i) (stpS m i)
def endW (m:Arcs) (i:Nat) (fr un:Int):Int:=max (alignS (un+stpS m i) (stpS m i)) (startS m i fr+stpS m i)
def valsS (m:Arcs) (D:List UInt8) (i:Nat) (start:Int) (k:Nat):List Vl:=(List.range k).map fun (j:Nat)=>hasV m D i (start+j*stpS m i)
theorem rhoff_any (ag xf:Nat) (A:Option Addr) (c:Nat) (m:Arcs) (hM:mayH ag xf (ints m)=true) (i:Nat) (hi:i<m.length) (w:World) (hr:Ri w A (ints m)):Calls Tryz.prog 59 #[.agg #[.int .i64 ag, .int .i64 xf, .slice A m.length c], .int .i64 i] w fun e w'=>e= .returned (.int .i64 (offS m i:Nat))∧Gr w w':=by
 obtain ⟨V,hV⟩:∃V,V=w.alloc (.cells #[.int .i64 ag, .int .i64 xf, .slice A m.length c] 24):=⟨_,rfl⟩
 have gV:Gr w V:=by rw[hV];exact Gr.alloc (Gr.refl w) _
 have hz:w.heap.size<V.heap.size:=by rw[hV];simp
 have c0:V.cell? ⟨w.heap.size,0,none⟩=some (.int .i64 ag):=by rw[hV];go_simp
 have c1:V.cell? ⟨w.heap.size,1,none⟩=some (.int .i64 xf):=by rw[hV];go_simp
 have c2:V.cell? ⟨w.heap.size,2,none⟩=some (.slice A m.length c):=by rw[hV];go_simp
 have HV:=Lib.hid hV
 have HG:=Lib.hid gV
 have HR:=Lib.hid (hr.gr gV)
 have hck:=fun W (hW:Ri W A (ints m))=>rmay_any ag xf A c (ints m) W hW
 rw[ints_len,hM] at hck
 have HCK:=Lib.hid hck
 have hF:=MayF.ofH hM
 have HF:=Lib.hid hF
 clear hV gV hck
 have h8:(m.length:Int)≤8:=by have:=hF.l8;omega
 have q1:¬(i:Int)<0:=by omega
 have q2:¬(m.length:Int)≤(i:Int):=by omega
 have q3:¬m.length≤i:=by omega
 have hii:(i:Int)<(m.length:Int):=by omega
 clear hF hr
 go_enter Tryz.func59,Tryz.ntmps59
 go_upto_region 1 with (fail)
 rw[←HV.out]
 clear HV
 go_wp2_with (go_at_call 6;refine (HCK.out _ HR.out).mono ?_;rintro e w1 ⟨rfl,g1⟩;have d0:=(Below.cell g1 (p:=⟨w.heap.size,0,none⟩) hz).trans c0;have d1:=(Below.cell g1 (p:=⟨w.heap.size,1,none⟩) hz).trans c1;have d2:=(Below.cell g1 (p:=⟨w.heap.size,2,none⟩) hz).trans c2;have hz1:=Nat.lt_of_lt_of_le hz g1.size;have HG1:=Lib.hid (HG.out.trans g1);have HR1:=Lib.hid (HR.out.gr g1);clear c0 c1 c2 hz g1)
 go_loopw [6,5] (fun j n wr=>∃k:Nat,k≤i∧j= .int .i64 k∧n= .int .i64 (offS m k:Nat)∧Gr w1 wr) (fun j _ _=>i-(intOf j).toNat)
 case atStart=>exact ⟨0,Nat.zero_le _,rfl,by unfold offS;simp,Gr.refl _⟩
 case round=>
  obtain ⟨k,hk,rfl,rfl,hgr⟩:=hrel
  have e2:=(Below.cell hgr (p:=⟨w.heap.size,2,none⟩) hz1).trans d2
  by_cases hlt:k<i
  ·
   have hlti:(k:Int)<(i:Int):=by omega
   have hkm:k<m.length:=by omega
   have hkmi:(k:Int)<(m.length:Int):=by omega
   obtain ⟨ad,rfl,hb,hc⟩:=(HR1.out.gr hgr) (by rw[ints_len];omega)
   obtain ⟨p0,p1⟩:=hc k (by rw[ints_len];exact hkm)
   rw[ints_at m k hkm] at p0 p1
   simp only at p0 p1
   have hs:=offS_succ hkm
   have hle:=offS_le (m:=m) (i:=k+1) (by omega)
   have hsz:=HF.out.sz
   have HS:=Lib.hid hs
   have Hgr:=Lib.hid hgr
   generalize m[k].1=x1 at *
   generalize m[k].2=x2 at *
   obtain ⟨N,hN⟩:∃N,N=offS m k:=⟨_,rfl⟩
   rw[←hN] at HS hs ⊢
   have hNi:(N:Int)+12*(x2:Int)≤2000000000:=by omega
   clear hc hs hle hsz hgr hN d0 d1 d2
   go_wp2
   go_roundw
   case rel=>exact ⟨k+1,by omega,by go_num,by rw[HS.out];go_num,gq⟩
   case measure=>simp[intOf];omega
  ·
   have hkk:k=i:=by omega
   subst hkk
   have HK:=Lib.hid hgr
   clear hgr d0 d1 d2
   go_wp2
   go_ret
   exact ⟨rfl,HG1.out.trans HK.out⟩
theorem rhspan_any (ag xf:Nat) (A:Option Addr) (c:Nat) (m:Arcs) (hM:mayH ag xf (ints m)=true) (w:World) (hr:Ri w A (ints m)):Calls Tryz.prog 72 #[.agg #[.int .i64 ag, .int .i64 xf, .slice A m.length c]] w fun e w'=>e= .returned (.int .i64 (spanS m:Nat))∧Gr w w':=by
 obtain ⟨V,hV⟩:∃V,V=w.alloc (.cells #[.int .i64 ag, .int .i64 xf, .slice A m.length c] 24):=⟨_,rfl⟩
 have gV:Gr w V:=by rw[hV];exact Gr.alloc (Gr.refl w) _
 have hz:w.heap.size<V.heap.size:=by rw[hV];simp
 have c0:V.cell? ⟨w.heap.size,0,none⟩=some (.int .i64 ag):=by rw[hV];go_simp
 have c1:V.cell? ⟨w.heap.size,1,none⟩=some (.int .i64 xf):=by rw[hV];go_simp
 have c2:V.cell? ⟨w.heap.size,2,none⟩=some (.slice A m.length c):=by rw[hV];go_simp
 have HV:=Lib.hid hV
 have HG:=Lib.hid gV
 have HR:=Lib.hid (hr.gr gV)
 have hck:=fun W (hW:Ri W A (ints m))=>rmay_any ag xf A c (ints m) W hW
 rw[ints_len,hM] at hck
 have HCK:=Lib.hid hck
 have hF:=MayF.ofH hM
 have HF:=Lib.hid hF
 clear hV gV hck
 obtain ⟨k,hk⟩:∃k,m.length=k+1:=⟨m.length-1,by have:=hF.l1;omega⟩
 obtain ⟨ad,rfl,hb,hc⟩:=HR.out (by rw[ints_len];omega)
 obtain ⟨p0,p1⟩:=hc k (by rw[ints_len];omega)
 rw[ints_at m k (by omega)] at p0 p1
 simp only at p0 p1
 have hs1:=hF.s1 k (by omega)
 have hc1:=hF.c1 k (by omega)
 have hsp:spanS m=m[k].1*m[k].2:=by unfold spanS;rw[lastS_at hF.l1];congr 2<;>(congr 1;omega)
 rw[stpS_at (by omega)] at hs1
 rw[cntS_at (by omega)] at hc1
 have hk8:(k:Int)≤8:=by have:=hF.l8;omega
 obtain ⟨x1,hx1⟩:∃x,x=(m[k]'(by omega)).1:=⟨_,rfl⟩
 obtain ⟨x2,hx2⟩:∃x,x=(m[k]'(by omega)).2:=⟨_,rfl⟩
 rw[←hx1] at p0 hs1 hsp
 rw[←hx2] at p1 hc1 hsp
 have hw:=prod_small (x1:Int) x2 (by omega) (by omega) (by omega) (by omega)
 have zk:IntKind.i64.wrap (k:Int)=(k:Int):=IntWalk.i64_in (k:Int) (by omega)
 have HB:=Lib.hid (And.intro hb (And.intro p0 p1))
 have HSP:=Lib.hid hsp
 rw[hk] at c2 HCK HV ⊢
 have hbk:∀z,(ad.add z).block<V.heap.size:=fun z=>by rw[adB];exact hb
 clear hx1 hx2 hF hr hc hb hs1 hc1 hsp hk
 go_enter Tryz.func72,Tryz.ntmps72
 go_upto_region 1 with (fail)
 rw[←HV.out]
 clear HV
 go_wp2_with (go_at_call 6;refine (HCK.out _ HR.out).mono ?_;rintro e w1 ⟨rfl,g1⟩;have u0:=(Below.cell g1 (p:=ad.add (k*2)) (hbk _)).trans p0;have u1:=(Below.cell g1 (p:=⟨(ad.add (k*2)).block,(ad.add (k*2)).off+1,none⟩) (hbk _)).trans p1;have d0:=(Below.cell g1 (p:=⟨w.heap.size,0,none⟩) hz).trans c0;have d1:=(Below.cell g1 (p:=⟨w.heap.size,1,none⟩) hz).trans c1;have d2:=(Below.cell g1 (p:=⟨w.heap.size,2,none⟩) hz).trans c2;have hz1:=Nat.lt_of_lt_of_le hz g1.size;have HG1:=Lib.hid (HG.out.trans g1);have HR1:=Lib.hid (HR.out.gr g1);clear c0 c1 c2 hz g1;clear p0 p1)
 go_ret
 exact ⟨ret_i (by rw[HSP.out];go_num),gq⟩
theorem bys_four (n:Nat) (hn:n≤4294967295):bys (beB n 4)=[.int .u8 ((n:Int)/16777216), .int .u8 ((n:Int)/65536%256), .int .u8 ((n:Int)/256%256), .int .u8 ((n:Int)%256)]:=by
 have h0:n/256^3%256=n/16777216:=by rw[show (256:Nat)^3=16777216 from rfl];omega
 unfold bys beB beB beB beB beB
 simp only[List.map_cons,List.map_nil,toNat_mod]
 rw[h0,show (256:Nat)^2=65536 from rfl,show (256:Nat)^1=256 from rfl,show (256:Nat)^0=1 from rfl,Nat.div_one]
 simp
theorem xfour_any (n:Nat) (hn:n≤4294967295) (w:World):Calls Tryz.prog 73 #[.int .i64 (n:Nat)] w fun e w'=>e= .returned (.slice (some ⟨w.heap.size,0,none⟩) 4 4)∧w'=w.alloc (.cells (bys (beB n 4)).toArray 5):=by
 have hni:(n:Int)≤4294967295:=by omega
 have HB:=Lib.hid (bys_four n hn)
 go_enter Tryz.func73,Tryz.ntmps73
 go_wp2
 go_ret
 exact ⟨rfl,by rw[HB.out]⟩
theorem add_at (a:Addr) (k:Nat):a.add (k+1)=⟨a.block,a.off+(k+1),none⟩:=by
 have h:=add_next a 0 k
 rw[Nat.zero_add,show a.add 0=a from by unfold Addr.add;simp] at h
 exact h
theorem i64_or_nat (a b:Nat) (ha:a<4611686018427387904) (hb:b<4611686018427387904):bits .or .i64 (a:Int) (b:Int)=((a ||| b:Nat):Int):=by
 have hx:a ||| b<2^62:=Nat.or_lt_two_pow (by omega) (by omega)
 have h1:(BitVec.ofInt 64 (a:Int)).toNat=a:=by
  rw[BitVec.ofInt_natCast,BitVec.toNat_ofNat];exact Nat.mod_eq_of_lt (by omega)
 have h2:(BitVec.ofInt 64 (b:Int)).toNat=b:=by
  rw[BitVec.ofInt_natCast,BitVec.toNat_ofNat];exact Nat.mod_eq_of_lt (by omega)
 show IntKind.i64.wrap ((BitVec.ofInt 64 (a:Int) ||| BitVec.ofInt 64 (b:Int)).toNat:Int)=_
 rw[BitVec.toNat_or,h1,h2]
 exact IntWalk.i64_in _ (by omega)
theorem mul_or (a b i m:Nat) (hm:m=2^i) (h:a<m):(b*m) ||| a=b*m+a:=by
 subst hm
 rw[←Nat.shiftLeft_eq,Nat.shiftLeft_add_eq_or_of_lt h]
theorem i64_or (b a i m:Nat) (hm:m=2^i) (h:a<m) (hb:b*m<4611686018427387904) (ha:a<4611686018427387904):bits .or .i64 (((b*m:Nat)):Int) (a:Int)=((b*m+a:Nat):Int):=by
 rw[i64_or_nat _ _ hb ha,mul_or a b i m hm h]
theorem ofB_four {l:List UInt8} (h:4≤l.length):((ofB (l.take 4):Nat):Int)=((l[0].toNat:Int)*16777216+(l[1].toNat:Int)*65536+(l[2].toNat:Int)*256+(l[3].toNat:Int)):=by
 have e:l.take 4=[l[0],l[1],l[2],l[3]]:=by
  match l,h with
  | a::b::c::d::r,_=>rfl
 rw[e]
 simp only[ofB,List.foldl_cons,List.foldl_nil]
 omega
theorem xfrom_any (A:Option Addr) (c:Nat) (l:List UInt8) (hl:4≤l.length) (hl2:(l.length:Int)≤1073741824) (w:World) (hr:Rb w A l):Calls Tryz.prog 82 #[.slice A l.length c] w fun e w'=>e= .returned (.int .i64 (ofB (l.take 4):Nat))∧Gr w w':=by
 have hE:=ofB_four hl
 obtain ⟨ad,rfl,hab,hac⟩:=hr.2 (by omega)
 have p0:=hac 0 _ (bys_at l 0 (by omega))
 rw[show ad.add 0=ad from by unfold Addr.add;simp] at p0
 have p1:=hac 1 _ (bys_at l 1 (by omega))
 have p2:=hac 2 _ (bys_at l 2 (by omega))
 have p3:=hac 3 _ (bys_at l 3 (by omega))
 rw[add_at] at p1 p2 p3
 have b0:=l[0].toNat_lt
 have b1:=l[1].toNat_lt
 have b2:=l[2].toNat_lt
 have b3:=l[3].toNat_lt
 rw[hE]
 generalize l[0].toNat=x0 at *
 generalize l[1].toNat=x1 at *
 generalize l[2].toNat=x2 at *
 generalize l[3].toNat=x3 at *
 have c0:(0:Int)≤(x0:Int)∧(x0:Int)≤255:=by omega
 have c1:(0:Int)≤(x1:Int)∧(x1:Int)≤255:=by omega
 have c2:(0:Int)≤(x2:Int)∧(x2:Int)≤255:=by omega
 have c3:(0:Int)≤(x3:Int)∧(x3:Int)≤255:=by omega
 have j0:0<l.length:=by omega
 have j1:1<l.length:=by omega
 have j2:2<l.length:=by omega
 have j3:3<l.length:=by omega
 have i0:(0:Int)<(l.length:Int):=by omega
 have i1:(1:Int)<(l.length:Int):=by omega
 have i2:(2:Int)<(l.length:Int):=by omega
 have i3:(3:Int)<(l.length:Int):=by omega
 have w0:IntKind.i64.wrap (x0:Int)=(x0:Int):=IntWalk.i64_in _ (by omega)
 have w1:IntKind.i64.wrap (x1:Int)=(x1:Int):=IntWalk.i64_in _ (by omega)
 have w2:IntKind.i64.wrap (x2:Int)=(x2:Int):=IntWalk.i64_in _ (by omega)
 have w3:IntKind.i64.wrap (x3:Int)=(x3:Int):=IntWalk.i64_in _ (by omega)
 have v0:IntKind.i64.wrap ((x0:Int)*16777216)=(x0:Int)*16777216:=IntWalk.i64_in _ (by omega)
 have v1:IntKind.i64.wrap ((x1:Int)*65536)=(x1:Int)*65536:=IntWalk.i64_in _ (by omega)
 have v2:IntKind.i64.wrap ((x2:Int)*256)=(x2:Int)*256:=IntWalk.i64_in _ (by omega)
 have o1:bits .or .i64 ((x0:Int)*16777216) ((x1:Int)*65536)=(x0:Int)*16777216+(x1:Int)*65536:=by
  have:=i64_or x0 (x1*65536) 24 16777216 (by decide) (by omega) (by omega) (by omega)
  simpa using this
 have o2:bits .or .i64 ((x0:Int)*16777216+(x1:Int)*65536) ((x2:Int)*256)=(x0:Int)*16777216+(x1:Int)*65536+(x2:Int)*256:=by
  have:=i64_or (x0*256+x1) (x2*256) 16 65536 (by decide) (by omega) (by omega) (by omega)
  rw[show (x0*256+x1)*65536=x0*16777216+x1*65536 by omega] at this
  simpa using this
 have o3:bits .or .i64 ((x0:Int)*16777216+(x1:Int)*65536+(x2:Int)*256) (x3:Int)=(x0:Int)*16777216+(x1:Int)*65536+(x2:Int)*256+(x3:Int):=by
  have:=i64_or (x0*65536+x1*256+x2) x3 8 256 (by decide) (by omega) (by omega) (by omega)
  rw[show (x0*65536+x1*256+x2)*256=x0*16777216+x1*65536+x2*256 by omega] at this
  simpa using this
 clear hE hr hac b0 b1 b2 b3
 go_enter Tryz.func82,Tryz.ntmps82
 go_upto_region 1 with (fail)
 refine region_Q (by kernel_rfl) (by kernel_rfl) ?_
 iterate 2 (refine qv ?_;simp only[Pu])
 refine q_val (v:=?qv3) (by rfl) (fun W hW=>?qh3) ?qr3
 case qh3=>have e:=(Below.cell hW (p:=ad) hab).trans p0;go_simp;rfl
 simp only[Pu]
 iterate 4 (refine qv ?_;simp only[Pu])
 refine q_val (v:=?qv8) (by rfl) (fun W hW=>?qh8) ?qr8
 case qh8=>have e:=(Below.cell hW (p:=⟨ad.block,ad.off+1,none⟩) hab).trans p1;go_simp;rfl
 simp only[Pu]
 iterate 5 (refine qv ?_;simp only[Pu])
 refine q_val (v:=?qv14) (by rfl) (fun W hW=>?qh14) ?qr14
 case qh14=>have e:=(Below.cell hW (p:=⟨ad.block,ad.off+2,none⟩) hab).trans p2;go_simp;rfl
 simp only[Pu]
 iterate 5 (refine qv ?_;simp only[Pu])
 refine q_val (v:=?qv20) (by rfl) (fun W hW=>?qh20) ?qr20
 case qh20=>have e:=(Below.cell hW (p:=⟨ad.block,ad.off+3,none⟩) hab).trans p3;go_simp;rfl
 simp only[Pu]
 iterate 3 (refine qv ?_;simp only[Pu])
 refine wpQuiet_nil ?_
 intro w8 hw8
 go_wp2
 go_ret
 exact ⟨rfl,hw8⟩
section
open Go.RowKit Go.ChangeMaps Go.Maps
theorem info_chg:(Tryz.prog.info? 115).map (fun i=>(i.zero,i.size,i.bytes))=some (some (.agg #[.int .i64 0, .string ByteArray.empty, .int .i64 0, .slice none 0 0]),4,56):=by kernel_rfl
def DoS (F P B:Nat) (v k s a d:Value) (W:World):Prop:=W.cell? ⟨F,0,none⟩=some (.pointer (some ⟨P,0,none⟩))∧W.cell? ⟨P,0,none⟩=some v∧W.cell? ⟨B,0,none⟩=some k∧W.cell? ⟨B,1,none⟩=some s∧W.cell? ⟨B,2,none⟩=some a∧W.cell? ⟨B,3,none⟩=some d
theorem DoS.kp {F P B:Nat} {v k s a d:Value} {W W':World} {S:Nat→Prop} (h:DoS F P B v k s a d W) (q:Kp S W W') (lF:F<W.heap.size) (lP:P<W.heap.size) (lB:B<W.heap.size) (hF:¬S F) (hP:¬S P) (hB:¬S B):DoS F P B v k s a d W':=
 ⟨(q.cell (a:=⟨F,0,none⟩) lF hF).trans h.1,(q.cell (a:=⟨P,0,none⟩) lP hP).trans h.2.1,(q.cell (a:=⟨B,0,none⟩) lB hB).trans h.2.2.1,(q.cell (a:=⟨B,1,none⟩) lB hB).trans h.2.2.2.1,(q.cell (a:=⟨B,2,none⟩) lB hB).trans h.2.2.2.2.1,(q.cell (a:=⟨B,3,none⟩) lB hB).trans h.2.2.2.2.2⟩
theorem FsM.noted {w W5 w9:World} {Y:Nat→Prop} {F P M:Nat} {R:Option Nat} {room:Int} {n m:Nat} {D:Option (List UInt8)} (h:FsM Y w F P M R room n D) {v':Value} {ys:List Value} (g5:Gr w W5) (hgr:W5.grownBy w9 R) (own9:w9.ownsRow 0 115 4 v' m ys) (hat:v'.ownBlock=R∨v'.ownBlock=some W5.heap.size) :
  FsM Y (w9.setCell ⟨P,0,none⟩ v') F P M v'.ownBlock room m D∧Kp (fun k=>k=P∨R=some k) w (w9.setCell ⟨P,0,none⟩ v')∧(∀k,v'.ownBlock=some k→R=some k∨w.heap.size≤k):=by
 have k:Kp (fun k=>k=P∨R=some k) w (w9.setCell ⟨P,0,none⟩ v'):=((Kp.of_gr (fun k=>k=P∨R=some k) g5).grown hgr (fun i hi=> .inl (.inr hi))).set (p:=⟨P,0,none⟩) (.inl (.inl rfl)) _
 have hfr:∀i,v'.ownBlock=some i→R=some i∨w.heap.size≤i:=fun i hi=>by
  rcases hat with e|e
  ·
   exact .inl (e▸hi)
  ·
   rw[e] at hi;injection hi with hi;exact .inr (by rw[←hi];exact g5.size)
 have hnF:¬(F=P∨R=some F):=fun e=>by
  rcases e with e|e
  ·
   exact h.nfp e
  ·
   exact (h.rr F e).1 rfl
 have hnM:¬(M=P∨R=some M):=fun e=>by
  rcases e with e|e
  ·
   exact h.npm e.symm
  ·
   exact (h.rr M e).2.2 rfl
 have k9:Kp (fun k=>R=some k) w w9:=(Kp.of_gr (fun k=>R=some k) g5).grown hgr (fun i hi=> .inl hi)
 have hnP:¬R=some P:=fun e=>(h.rr P e).2.1 rfl
 obtain ⟨v,xs,v1,v2,v3⟩:=h.p0
 obtain ⟨y,hy⟩:=h.p1
 have q0:(w9.setCell ⟨P,0,none⟩ v').cell? ⟨P,0,none⟩=some v':=World.cell?_setCell_same' _ _ _ (by rw[k9.cell (a:=⟨P,0,none⟩) h.lp hnP,v1];rfl)
 have q1:(w9.setCell ⟨P,0,none⟩ v').cell? ⟨P,1,none⟩=some y:=(World.cell?_setCell_other _ ⟨P,0,none⟩ ⟨P,1,none⟩ _ (by first|(simp;done)|(simp;omega))).trans ((k9.cell (a:=⟨P,1,none⟩) h.lp hnP).trans hy)
 have kS:Kp (fun k=>k=P) w9 (w9.setCell ⟨P,0,none⟩ v'):=(Kp.refl (fun k=>k=P) _).set (p:=⟨P,0,none⟩) (.inl (show P=P from rfl)) _
 have hoP:∀i,v'.ownBlock=some i→i≠F∧i≠P∧i≠M:=fun i hi=>by
  rcases hfr i hi with e|e
  ·
   exact h.rr i e
  ·
   have:=h.lf;have:=h.lp;have:=h.lm
   exact ⟨fun e=>by omega,fun e=>by omega,fun e=>by omega⟩
 refine ⟨⟨Nat.lt_of_lt_of_le h.lf k.size,Nat.lt_of_lt_of_le h.lp k.size,Nat.lt_of_lt_of_le h.lm k.size,h.nfp,h.nfm,h.npm,(k.cell (a:=⟨F,0,none⟩) h.lf hnF).trans h.f0,(k.cell (a:=⟨F,1,none⟩) h.lf hnF).trans h.f1,(k.cell (a:=⟨F,2,none⟩) h.lf hnF).trans h.f2,
  ⟨v',ys,q0,rfl,kS.own own9 (fun i hi=>(hoP i hi).2.1)⟩,⟨y,q1⟩,by rw[World.frozen?_setCell];exact (k9.frozen (a:=⟨P,0,none⟩) h.lp hnP).trans h.z0,by rw[World.frozen?_setCell];exact (k9.frozen (a:=⟨P,1,none⟩) h.lp hnP).trans h.z1,hoP,fun i hi=>Nat.lt_of_lt_of_le (h.yl i hi) k.size,?_⟩,k,hfr⟩
 cases D with
 | none=>
  obtain ⟨clk,hb⟩:=h.mp
  exact ⟨clk,(k.block M h.lm hnM).trans hb⟩
 | some l=>
  obtain ⟨clk,born,A,c,hb,hc,hr,hq⟩:=h.mp
  have hq:=hq.imp (Q':=fun g=>(g≠P∧g≠M∧v'.ownBlock≠some g∧¬Y g)∧¬(g=P∨R=some g)) (fun g hg hq=>⟨⟨hq.1,hq.2.1,fun e=>by
   rcases hfr g e with e|e
   ·
    exact hq.2.2.1 e
   ·
    omega,hq.2.2.2⟩,fun e=>by
   rcases e with e|e
   ·
    exact hq.1 e
   ·
    exact hq.2.2.1 e⟩)
  have h2:=hq.kp k (fun g _ hq e=>hq.2 e) hr
  exact ⟨clk,born,A,c,(k.block M h.lm hnM).trans hb,hc,h2.1,h2.2.imp (fun g _ hq=>hq.1)⟩
theorem does_any {Y:Nat→Prop} {F P M:Nat} {R:Option Nat} {room:Int} {n:Nat} {D D':Option (List UInt8)} (kd at_:Int) (gd:Option Addr) (ld dd:Nat) (hn:n≤1000000) (w:World) (h:FsM Y w F P M R room n D)
  (hap:∀W,Gr w W→Calls Tryz.prog 83 #[.pointer (some ⟨F,0,none⟩), .agg #[.int .i64 kd, .string nmA, .int .i64 at_, .slice gd ld dd]] W fun e w'=>e= .returned (.tuple #[])∧FsM Y w' F P M R room n D'∧Kp (fun k=>k=M) W w') :
  Calls Tryz.prog 49 #[.pointer (some ⟨F,0,none⟩), .agg #[.int .i64 kd, .string nmA, .int .i64 at_, .slice gd ld dd]] w fun e w'=>e= .returned (.tuple #[])∧∃R',FsM Y w' F P M R' room (n+1) D'∧Kp (Tch P M R) w w'∧∀i,R'=some i→R=some i∨w.heap.size≤i:=by
 obtain ⟨i0,hi0,hy0,hy1,hy2⟩:=info_parts info_chg
 obtain ⟨V,hV⟩:∃V,V=w.alloc (.cells #[.int .i64 kd, .string nmA, .int .i64 at_, .slice gd ld dd] 115):=⟨_,rfl⟩
 have gV:Gr w V:=by rw[hV];exact Gr.alloc (Gr.refl w) _
 have hz:w.heap.size<V.heap.size:=by rw[hV];simp
 have c0:V.cell? ⟨w.heap.size,0,none⟩=some (.int .i64 kd):=by rw[hV];go_simp
 have c1:V.cell? ⟨w.heap.size,1,none⟩=some (.string nmA):=by rw[hV];go_simp
 have c2:V.cell? ⟨w.heap.size,2,none⟩=some (.int .i64 at_):=by rw[hV];go_simp
 have c3:V.cell? ⟨w.heap.size,3,none⟩=some (.slice gd ld dd):=by rw[hV];go_simp
 have HA:=Lib.hid (hap V gV)
 have H0:=Lib.hid h
 have HV:=Lib.hid hV
 have HG:=Lib.hid gV
 have hRs:Hid (∀i,R=some i→i<w.heap.size):=Lib.hid fun i e=>by
  obtain ⟨v,xs,v1,v2,v3⟩:=h.p0
  exact (v3.lt i (by rw[v2];exact e)).2
 clear hV gV h hap
 go_enter Tryz.func49,Tryz.ntmps49
 go_upto_region 1 with (fail)
 rw[←HV.out]
 clear HV
 go_upto_region 2 with (go_at_call 83;refine HA.out.mono ?_;rintro e w1 ⟨rfl,hF1,k1⟩;have d0:=(k1.cell (a:=⟨w.heap.size,0,none⟩) hz (fun e=>by have:=H0.out.lm;simp only at e;omega)).trans c0;have d1:=(k1.cell (a:=⟨w.heap.size,1,none⟩) hz (fun e=>by have:=H0.out.lm;simp only at e;omega)).trans c1;have d2:=(k1.cell (a:=⟨w.heap.size,2,none⟩) hz (fun e=>by have:=H0.out.lm;simp only at e;omega)).trans c2;have d3:=(k1.cell (a:=⟨w.heap.size,3,none⟩) hz (fun e=>by have:=H0.out.lm;simp only at e;omega)).trans c3;have HF1:=Lib.hid hF1;have K1:=Lib.hid k1;have hz1:=Nat.lt_of_lt_of_le hz k1.size;clear hF1 k1)
 clear c0 c1 c2 c3
 obtain ⟨v,xs,v1,v2,v3⟩:=HF1.out.p0
 obtain ⟨A0,cp0,hv⟩:=own_form v3
 subst hv
 have HV3:=Lib.hid (And.intro v2 v3)
 have hw1:DoS F P w.heap.size (.slice A0 n cp0) (.int .i64 kd) (.string nmA) (.int .i64 at_) (.slice gd ld dd) w1:=⟨HF1.out.f0,v1,d0,d1,d2,d3⟩
 refine wp_region_Z 16 (DoS F P w.heap.size (.slice A0 n cp0) (.int .i64 kd) (.string nmA) (.int .i64 at_) (.slice gd ld dd)) (by kernel_rfl) ?_
 have hS0:DoS F P w.heap.size (.slice A0 n cp0) (.int .i64 kd) (.string nmA) (.int .i64 at_) (.slice gd ld dd) w1.drew:=hw1
 have g0:Gr w1 w1.drew:=Gr.drew (Gr.refl _)
 obtain ⟨W0,hW0⟩:∃W0,W0=w1.drew:=⟨_,rfl⟩
 rw[←hW0] at hS0 g0 ⊢
 clear hW0 hw1 d0 d1 d2 d3 v1 v2 v3
 refine zu 0 rfl hS0 (fun W hS=>by go_simp;rfl) ?_
 refine zu 1 rfl hS0 (fun W hS=>by go_simp;rfl) ?_
 refine zu 2 rfl hS0 (fun W hS=>by go_simp;rfl) ?_
 refine zu 3 rfl hS0 (fun W hS=>by have s0:=hS.1;go_simp;rfl) ?_
 refine zu 4 rfl hS0 (fun W hS=>by go_simp;rfl) ?_
 refine zu 5 rfl hS0 (fun W hS=>by go_simp;rfl) ?_
 refine zu 6 rfl hS0 (fun W hS=>by go_simp;rfl) ?_
 refine zu 7 rfl hS0 (fun W hS=>by have s0:=hS.1;go_simp;rfl) ?_
 refine zu 8 rfl hS0 (fun W hS=>by go_simp;rfl) ?_
 refine zu 9 rfl hS0 (fun W hS=>by go_simp;rfl) ?_
 refine zu 10 rfl hS0 (fun W hS=>by have s1:=hS.2.1;go_simp;rfl) ?_
 refine zu 11 rfl hS0 (fun W hS=>by have s2:=hS.2.2.1;have s3:=hS.2.2.2.1;have s4:=hS.2.2.2.2.1;have s5:=hS.2.2.2.2.2;go_simp;rfl) ?_
 refine wpAnyZ_ready (rs:=[12]) (by kernel_rfl) (by simp) ?_
 refine AllReadyZ.cons (i:=12) rfl (by kernel_rfl) ?zx1 AllReadyZ.nil
 intro K hK
 simp only[List.getElem_toArray,List.getElem_cons_succ,List.getElem_cons_zero]
 have hrx:Rd (W0.alloc (.cells #[.int .i64 kd, .string nmA, .int .i64 at_, .slice gd ld dd] 115)) 4 (some ⟨W0.heap.size,0,none⟩) 1 [.int .i64 kd, .string nmA, .int .i64 at_, .slice gd ld dd]:=Rd.newU (W:=W0) rfl 115 [.int .i64 kd, .string nmA, .int .i64 at_, .slice gd ld dd] rfl
 have g5:Gr W0 (W0.alloc (.cells #[.int .i64 kd, .string nmA, .int .i64 at_, .slice gd ld dd] 115)):=Gr.alloc (Gr.refl _) _
 have lz:w.heap.size<W0.heap.size:=Nat.lt_of_lt_of_le hz1 g0.size
 have lf:=Nat.lt_of_lt_of_le HF1.out.lf g0.size
 have lp:=Nat.lt_of_lt_of_le HF1.out.lp g0.size
 go_simp
 refine hK.out _ _ (fun hnz=>?zs2) (fun _=>?zr3)
 case zs2=>exact hS0.kp (Kp.of_gr (fun _=>False) g5) lf lp lz (fun h=>h) (fun h=>h) (fun h=>h)
 clear hK K
 try (simp only[Pu,List.getElem_toArray,List.getElem_cons_succ,List.getElem_cons_zero])
 obtain ⟨W5,hW5⟩:∃W5,W5=W0.alloc (.cells #[.int .i64 kd, .string nmA, .int .i64 at_, .slice gd ld dd] 115):=⟨_,rfl⟩
 rw[←hW5] at hrx g5 ⊢
 clear hW5
 have hS5:=hS0.kp (Kp.of_gr (fun _=>False) g5) lf lp lz (fun h=>h) (fun h=>h) (fun h=>h)
 have o5:=own_grU (own_grU HV3.out.2 g0) g5
 refine wpAnyZ_ready (rs:=[13]) (by kernel_rfl) (by simp) ?_
 refine AllReadyZ.cons (i:=13) rfl (by kernel_rfl) ?zx4 AllReadyZ.nil
 intro K hK
 simp only[List.getElem_toArray,List.getElem_cons_succ,List.getElem_cons_zero]
 refine wp_append_rd0 (.tmp 17) (.tmp 19) 75 rfl 0 115 i0 _ 4 56 Tryz.underlying75 hi0 hy0 hy1 hy2 rfl (by decide) _ n _ rfl o5 (some ⟨W0.heap.size,0,none⟩) 1 _ [.int .i64 kd, .string nmA, .int .i64 at_, .slice gd ld dd] rfl hrx (by intro u hu;simp at hu;rcases hu with rfl|rfl|rfl|rfl<;>rfl) (by unfold maxLen;omega) (by omega) (by omega) ?_
 intro v' w9 own9 hgr9 hob9
 have hnt:=HF1.out.noted (g0.trans g5) (by rw[←HV3.out.1];exact hgr9) own9 (by rw[←HV3.out.1];exact hob9)
 have hown:∀i,(Value.slice A0 n cp0).ownBlock=some i→i<w.heap.size:=fun i e=>hRs.out i (by rw[←HV3.out.1];exact e)
 have hS9:DoS F P w.heap.size (.slice A0 n cp0) (.int .i64 kd) (.string nmA) (.int .i64 at_) (.slice gd ld dd) w9:=
  hS5.kp ((Kp.refl (fun q=>(Value.slice A0 n cp0).ownBlock=some q) _).grown hgr9 (fun q hq=> .inl hq)) (Nat.lt_of_lt_of_le lf g5.size) (Nat.lt_of_lt_of_le lp g5.size) (Nat.lt_of_lt_of_le lz g5.size) (fun e=>(HF1.out.rr F (by rw[←HV3.out.1];exact e)).1 rfl) (fun e=>(HF1.out.rr P (by rw[←HV3.out.1];exact e)).2.1 rfl) (fun e=>by have:=hown _ e;omega)
 have z9:w9.frozen? ⟨P,0,none⟩=false:=by
  have k9:Kp (fun q=>(Value.slice A0 n cp0).ownBlock=some q) w1 w9:=(Kp.of_gr _ (g0.trans g5)).grown hgr9 (fun q hq=> .inl hq)
  exact (k9.frozen (a:=⟨P,0,none⟩) HF1.out.lp (fun e=>(HF1.out.rr P (by rw[←HV3.out.1];exact e)).2.1 rfl)).trans HF1.out.z0
 obtain ⟨A9,c9,hv9⟩:=own_form own9
 subst hv9
 have HN:=Lib.hid hnt
 clear hnt own9 hgr9 hob9 o5 hrx hS5 hS0 hown g5
 refine hK.out _ _ (fun hnz=>?zs5) (fun _=>?zr6)
 case zs5=>exact hS9
 clear hK K
 try (simp only[Pu,List.getElem_toArray,List.getElem_cons_succ,List.getElem_cons_zero])
 refine zu 14 rfl hS9 (fun W hS=>by go_simp;rfl) ?_
 refine zu 15 rfl hS9 (fun W hS=>by go_simp;rfl) ?_
 refine wpAnyZ_ready (rs:=[16]) (by kernel_rfl) (by simp) ?_
 refine AllReadyZ.cons (i:=16) rfl (by kernel_rfl) ?zx7 AllReadyZ.nil
 intro K hK
 simp only[List.getElem_toArray,List.getElem_cons_succ,List.getElem_cons_zero]
 have s1:=hS9.2.1
 go_simp
 refine hK.out _ _ (fun hnz=>?zs8) (fun _=>?zr9)
 case zs8=>exact absurd rfl hnz
 clear hK K
 try (simp only[Pu,List.getElem_toArray,List.getElem_cons_succ,List.getElem_cons_zero])
 refine wpAnyZ_done (by kernel_rfl) ?_ _
 go_wp2
 go_end0
 refine ⟨rfl,_,HN.out.1,?_,fun i hi=>?_⟩
 ·
  refine (((Kp.of_gr (Tch P M R) HG.out).trans K1.out (fun i _ e=> .inr (.inl e))).trans HN.out.2.1 (fun i _ e=>?_))
  rcases e with e|e
  ·
   exact .inl e
  ·
   exact .inr (.inr e)
 ·
  rcases HN.out.2.2 i hi with e|e
  ·
   exact .inl e
  ·
   exact .inr (Nat.le_trans (Nat.le_trans HG.out.size K1.out.size) e)
end
theorem fresh_rb {B:Nat} {w':World} {v:Value} {l:List UInt8} (h:Lib.FreshBytes B w' v l) (h0:0<l.length):∃g cap,v= .slice (some ⟨g,0,none⟩) l.length cap∧B≤g∧l.length≤cap∧Rb w' (some ⟨g,0,none⟩) l:=by
 obtain ⟨g,cap,zs,rfl,hB,hc, -,hz,hzb,hb,hcell, -⟩:=h
 have hcl:∀i (hi:i<l.length),w'.cell? ⟨g,i,none⟩=some (.int .u8 (l[i].toNat:Int)):=fun i hi=>by
  have hzi:i<zs.length:=by omega
  have h1:=hcell i (by omega)
  have h2:=hzb zs[i] (List.getElem_mem hzi)
  have h3:l[i]?=some (UInt8.ofNat zs[i].toNat):=by
   rw[←hb,Lib.bytesOf,List.getElem?_map,List.getElem?_take_of_lt hi,List.getElem?_eq_getElem hzi]
   rfl
  rw[List.getElem?_eq_getElem hi] at h3
  injection h3 with h3
  rw[h1,h3,List.getD_eq_getElem?_getD,List.getElem?_eq_getElem hzi]
  have h4:zs[i].toNat<256:=by omega
  simp only[Option.getD_some,UInt8.toNat_ofNat']
  congr 2
  omega
 have hlt:g<w'.heap.size:=World.block_lt_of_cell? w' ⟨g,0,none⟩ (hcl 0 h0)
 refine ⟨g,cap,rfl,hB,hc,by rw[bys_length],fun _=>⟨_,rfl,hlt,fun j u hu=>?_⟩⟩
 have hj:j<l.length:=by
  have:=(List.getElem?_eq_some_iff.1 hu).1
  simpa [bys] using this
 rw[bys_at l j hj] at hu
 injection hu with hu
 rw[←hu,show (⟨g,0,none⟩:Addr).add j=⟨g,j,none⟩ by simp[Addr.add];omega]
 exact hcl j hj
def Pts (w:World) (b:Nat) (ls:List (List UInt8)):Prop:=∀k (h:k<ls.length),∃p c,w.cell? ⟨b,k,none⟩=some (.slice (some p) ls[k].length c)∧Rb w (some p) ls[k]
theorem Pts.gr {w w':World} {b:Nat} {ls:List (List UInt8)} (h:Pts w b ls) (g:Gr w w'):Pts w' b ls:=fun k hk=>by
 obtain ⟨p,c,h1,h2⟩:=h k hk
 exact ⟨p,c,(Below.cell g (p:=⟨b,k,none⟩) (World.block_lt_of_cell? w ⟨b,k,none⟩ h1)).trans h1,h2.gr g⟩
theorem join_nil:∀ls:List (List UInt8),Lib.join ls []=ls.flatten
 | []=>rfl
 | [a]=>by simp[Lib.join]
 | a::b::r=>by
  have:=join_nil (b::r)
  simp[Lib.join] at this ⊢
  rw[this]
theorem Rb.cells {w:World} {p:Addr} {l:List UInt8} (h:Rb w (some p) l) (i:Nat) (x:UInt8) (hx:l[i]?=some x):w.cell? (p.add i)=some (.int .u8 (x.toNat:Int)):=by
 obtain ⟨hi,rfl⟩:=List.getElem?_eq_some_iff.1 hx
 obtain ⟨ad,e, -,hc⟩:=h.2 (by omega)
 injection e with e
 subst e
 exact hc i _ (bys_at l i hi)
theorem join_one (b:Nat) (c:Nat) (l:List UInt8) (h0:0<l.length) (hl:l.length≤1073741824) (w:World) (h:Pts w b [l]):Calls Tryz.prog 50 #[.slice (some ⟨b,0,none⟩) 1 c, .slice none 0 0] w fun e w'=>∃g d,e= .returned (.slice (some ⟨g,0,none⟩) l.length d)∧w.heap.size≤g∧l.length≤d∧Rb w' (some ⟨g,0,none⟩) l∧Gr w w':=by
 obtain ⟨p,c0,h1,h2⟩:=h 0 (by simp)
 refine (Tryz.bytes_Join_one b 0 c p c0 l (.slice none 0 0) w h1 (fun i x hx=>h2.cells i x hx) h0 (by omega)).mono ?_
 rintro e w' ⟨v',rfl,hf,hg⟩
 obtain ⟨g,d,rfl,q1,q2,q3⟩:=fresh_rb hf h0
 exact ⟨g,d,rfl,q1,q2,q3,hg⟩
theorem join_two (b:Nat) (c:Nat) (l m:List UInt8) (h0:0<l.length) (hl:l.length+m.length≤1073741824) (hc:2≤c) (w:World) (h:Pts w b [l,m]):Calls Tryz.prog 50 #[.slice (some ⟨b,0,none⟩) 2 c, .slice none 0 0] w fun e w'=>∃g d,e= .returned (.slice (some ⟨g,0,none⟩) (l++m).length d)∧w.heap.size≤g∧(l++m).length≤d∧Rb w' (some ⟨g,0,none⟩) (l++m)∧Gr w w':=by
 obtain ⟨p,c0,h1,h2⟩:=h 0 (by simp)
 obtain ⟨q,c1,h3,h4⟩:=h 1 (by simp)
 have hP:Lib.PartsAt w ⟨b,0,none⟩ [.slice (some p) l.length c0, .slice (some q) m.length c1] [l,m]:=by
  refine ⟨rfl,fun i v hv=>?_,fun i v l' hv hl'=>?_⟩
  ·
   match i,hv with
   | 0,hv=>simp at hv;subst hv;exact h1
   | 1,hv=>simp at hv;subst hv;exact h3
   | i+2,hv=>simp at hv
  ·
   match i,hv,hl' with
   | 0,hv,hl'=>simp at hv hl';subst hv;subst hl';exact ⟨some p,c0,rfl,(fun e=>by cases e),(fun a e=>by injection e with e;subst e;exact fun i x hx=>h2.cells i x hx)⟩
   | 1,hv,hl'=>simp at hv hl';subst hv;subst hl';exact ⟨some q,c1,rfl,(fun e=>by cases e),(fun a e=>by injection e with e;subst e;exact fun i x hx=>h4.cells i x hx)⟩
   | i+2,hv,_=>simp at hv
 have hS:Lib.HoldsBytes w (.slice none 0 0) []:=⟨none,0,rfl,fun _=>rfl,fun a e=>by cases e⟩
 refine (Tryz.bytes_Join_many b 0 2 c _ [l,m] (.slice none 0 0) [] w rfl (by omega) hP hc hS (by omega) (by simp[Lib.lens];omega)).mono ?_
 rintro e w' ⟨v',rfl,hf,hg⟩
 rw[join_nil] at hf
 have e1:[l,m].flatten=l++m:=by simp
 rw[e1] at hf
 obtain ⟨g,d,rfl,q1,q2,q3⟩:=fresh_rb hf (by rw[List.length_append];omega)
 exact ⟨g,d,rfl,q1,q2,q3,hg⟩
section
open Go.RowKit Go.ChangeMaps Go.Maps
theorem writeAt_any {Y:Nat→Prop} {F P M:Nat} {R:Option Nat} {room:Int} {n:Nat} (l m:List UInt8) (o pb c:Nat) (hl:(l.length:Int)≤1073741824) (hm:0<m.length) (hom:o+m.length≤l.length) (hn:n≤1000000) (w:World) (h:FsM Y w F P M R room n (some l)) (hp:Pts w pb [m]) :
  Calls Tryz.prog 62 #[.pointer (some ⟨F,0,none⟩), .string nmA, .int .i64 o, .slice (some ⟨pb,0,none⟩) 1 c] w fun e w'=>e= .returned (.int .i64 0)∧∃R',FsM Y w' F P M R' room (n+1) (some (putB l o m))∧Kp (Tch P M R) w w'∧∀i,R'=some i→R=some i∨w.heap.size≤i:=by
 have H1:=Lib.hid (find_some w h)
 have H0:=Lib.hid h
 have HP:=Lib.hid hp
 have HT:=Lib.hid (total_any pb 0 1 c [m] rfl (by omega) (by simp;omega) w (fun k hk=>by obtain ⟨p,d,h1, -⟩:=hp k hk;exact ⟨some p,d,by rw[Nat.zero_add];exact h1⟩))
 have HJ:=Lib.hid (join_one pb c m hm (by omega) w hp)
 have hs:([m].map List.length).sum=m.length:=by simp
 have h1:¬(o:Int)<0:=by omega
 have h2:¬(l.length:Int)<(o:Int):=by omega
 have h3:¬(l.length:Int)-(o:Int)<(m.length:Int):=by omega
 have h4:IntKind.i64.wrap ((l.length:Int)-(o:Int))=(l.length:Int)-(o:Int):=IntWalk.i64_in _ (by omega)
 have h5:decide ((l.length:Int)-(o:Int)<(m.length:Int))=false:=decide_eq_false h3
 have h6:decide ((l.length:Int)<(o:Int))=false:=decide_eq_false h2
 clear h hp
 rw[hs] at HT
 clear hs
 go_enter Tryz.func62,Tryz.ntmps62
 go_wp2_with (first|(go_at_call 78;refine H1.out.mono ?_;rintro e w1 ⟨g,cc,rfl,rfl, -⟩)|(go_at_call 47;refine HT.out.mono ?_;rintro e w2 ⟨rfl,rfl⟩)|(go_at_call 50;refine HJ.out.mono ?_;rintro e w7 ⟨g7,d7,rfl, -, -,hr,gr7⟩;have HR:=Lib.hid hr;have HG7:=Lib.hid gr7;clear hr gr7)|(go_at_call 49;refine (does_any 1 o (some ⟨g7,0,none⟩) m.length d7 hn _ (H0.out.gr HG7.out) (fun W gW=>applies_write l m o g7 d7 hl (by omega) hom W ((H0.out.gr HG7.out).gr gW) (HR.out.gr gW))).mono ?_;rintro e w8 ⟨rfl,R',hF,hK,hf⟩;have H8:=Lib.hid (And.intro hF (And.intro hK hf));clear hF hK hf))
 go_ret
 refine ⟨rfl,_,H8.out.1,(Kp.of_gr (Tch P M R) HG7.out).trans H8.out.2.1 (fun _ _ e=>e),fun i hi=>?_⟩
 rcases H8.out.2.2 i hi with e|e
 ·
  exact .inl e
 ·
  exact .inr (Nat.le_trans HG7.out.size e)
end
end Go.Proofs.YtoncapkmaeghfaaGreat
