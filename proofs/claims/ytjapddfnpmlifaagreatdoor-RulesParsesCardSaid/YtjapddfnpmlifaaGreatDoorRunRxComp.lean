import Derived.Test.YtjapddfnpmlifaaGreatDoorRunRxPutG
import Derived.Test.YtjapddfnpmlifaaGreatDoorRunFxBase
import Derived.Test.YtjapddfnpmlifaaGreatDoorRunRxSpec
import Derived.Test.YtjapddfnpmlifaaGreatDoorProg
import Derived.Test.YtjapddfnpmlifaaGreatDoorRunRxGood
set_option linter.all false
set_option maxRecDepth 1000000
set_option maxHeartbeats 12800000
namespace Go.Proofs.YtjapddfnpmlifaaGreatDoor
open Go.RowKit
def grpX (s:List UInt8):Nat:=bif errX s==0 then (readS s).2.groups else 0
def codeY (s:List UInt8):List In:=bif errX s==0 then codeX s else []
def RetC (w:World) (l:List UInt8) (e:Ending) (w':World):Prop:=
 ∃A c,e= .returned (.tuple #[.agg #[.int .i64 (grpX l), .slice A (codeY l).length c], .int .i64 (errX l)])/\Ri w' A (codeY l)/\Gr w w'/\∀ad,A=some ad->ad=⟨ad.block,0,none⟩/\w.heap.size<=ad.block
theorem rdr_new (w:World) (s:ByteArray):Rdr (w.alloc (.cells #[.string s, .int .i64 0, .int .i64 0, .int .i64 0, .bool false, .bool false] 156)) w.heap.size s 0 ⟨s.data.toList,0,0,false,false⟩:=by
 refine ⟨by simp,rfl,?_,?_,?_,?_,?_,?_,?_,?_,?_,?_,?_,?_⟩;all_goals go_simp
 all_goals try rfl
theorem wrt_new (w:World):WrtA (w.alloc (.cells #[.slice none 0 0] 161)) w.heap.size none []:=by
 refine ⟨0,?_,?_,World.ownsRow_nil _ _ _ _,by simp⟩;all_goals go_simp
 all_goals try rfl
theorem Rd.two (w:World) (u v:In):Rd (w.alloc (.cells #[.int .i64 u.op, .int .i64 u.x, .int .i64 u.y, .string ⟨u.ps.toArray⟩, .int .i64 v.op, .int .i64 v.x, .int .i64 v.y, .string ⟨v.ps.toArray⟩] 163)) 4 (some ⟨w.heap.size,0,none⟩) 2 (icells [u,v]):=by
 refine ⟨rfl,λ_=>⟨_,rfl,by simp,λj x hx=>?_⟩⟩;have:=(World.ownsRow_lit (base:=0) (e:=163) (size:=4) w #[.int .i64 u.op, .int .i64 u.x, .int .i64 u.y, .string ⟨u.ps.toArray⟩, .int .i64 v.op, .int .i64 v.x, .int .i64 v.y, .string ⟨v.ps.toArray⟩] 2 (Nat.zero_le _) (by decide) rfl).cells (g:=w.heap.size) rfl j x (by simpa [icells] using hx);exact this
theorem lays_two {w:World} {B:Nat} {A:Option Addr} {code:List In} (h:WrtA w B A code) (u v:In) (hb:code.length<=4000) :
  Calls Tryz.prog 80 #[.pointer (some ⟨B,0,none⟩), .slice (some ⟨w.heap.size,0,none⟩) 2 2] (w.alloc (.cells #[.int .i64 u.op, .int .i64 u.x, .int .i64 u.y, .string ⟨u.ps.toArray⟩, .int .i64 v.op, .int .i64 v.x, .int .i64 v.y, .string ⟨v.ps.toArray⟩] 163)) λe w'=>e= .returned (.int .i64 code.length)/\∃A',WrtA w' B A' (code++[u,v])/\WX B w (blk A) w' (blk A'):=by
 have g:=Gr.alloc (Gr.refl w) (.cells #[.int .i64 u.op, .int .i64 u.x, .int .i64 u.y, .string ⟨u.ps.toArray⟩, .int .i64 v.op, .int .i64 v.x, .int .i64 v.y, .string ⟨v.ps.toArray⟩] 163);refine (lays_any (h.gr g) _ 2 2 [u,v] rfl (by decide) (Rd.two w u v) (by omega)).mono ?_;rintro e w' ⟨he,A',h1,h2⟩;exact ⟨he,A',h1,(WX.gr _ g).trans h2⟩
theorem RetC.err {w w':World} {l:List UInt8} {n:Int} (h:errX l=n) (hn:(n==0)=false) (g:Gr w w'):RetC w l (.returned (.tuple #[.agg #[.int .i64 0, .slice none 0 0], .int .i64 n])) w':=by
 refine ⟨none,0,?_,?_,g,λad h=>by cases h⟩
 ·simp[grpX,codeY,h,hn]
 ·have:codeY l=[]:=by simp[codeY,h,hn]
  rw[this];exact Rd.nil _ _ _
theorem WX.gr_new {B:Nat} {w5 w1 w2:World} {g g2:Option Nat} (h:WX B w1 g w2 g2) (hw:Gr w5 w1) (hB:w5.heap.size<=B) (hg:∀k,g=some k->w5.heap.size<=k):Gr w5 w2:=
 ⟨h.os.trans hw.os,h.tape.trans hw.tape,h.output.trans hw.output,Nat.le_trans hw.size h.size,λk hk=>(h.block k (Nat.lt_of_lt_of_le hk hw.size) (by omega) (λe=>by have:=hg k e;omega)).trans (Below.block hw k hk)⟩
theorem lays_first (w:World):Calls Tryz.prog 80 #[.pointer (some ⟨w.heap.size,0,none⟩), .slice (some ⟨w.heap.size+1,0,none⟩) 1 1] ((w.alloc (.cells #[.slice none 0 0] 161)).alloc (.cells #[.int .i64 4, .int .i64 0, .int .i64 0, .string ⟨#[]⟩] 163)) λe w'=>
  e= .returned (.int .i64 0)/\∃A',WrtA w' w.heap.size A' [⟨4,0,0,[]⟩]/\WX w.heap.size (w.alloc (.cells #[.slice none 0 0] 161)) none w' (blk A'):=by
 have h:=lays_one (wrt_new w) ⟨4,0,0,[]⟩ (by simp);have hz:(w.alloc (.cells #[.slice none 0 0] 161)).heap.size=w.heap.size+1:=by simp
 rw[hz] at h;exact h
def WayOk (s:ByteArray):Prop:=∀w:World,Calls Tryz.prog 79 #[.pointer (some ⟨w.heap.size,0,none⟩)] (w.alloc (.cells #[.string s, .int .i64 0, .int .i64 0, .int .i64 0, .bool false, .bool false] 156)) λe w'=>
   ∃(b n:Nat),e= .returned (.pointer (some ⟨b,0,none⟩))/\(readS s.data.toList).1.In w.heap.size w'.heap.size w' b/\Gr w w'/\Rdr w' w.heap.size s n (readS s.data.toList).2
theorem ways_read (w:World) (s:ByteArray) (hs:s.size<=500) :
  Calls Tryz.prog 79 #[.pointer (some ⟨w.heap.size,0,none⟩)] (w.alloc (.cells #[.string s, .int .i64 0, .int .i64 0, .int .i64 0, .bool false, .bool false] 156)) λe w'=>
   ∃(b n:Nat),e= .returned (.pointer (some ⟨b,0,none⟩))/\(readS s.data.toList).1.In w.heap.size w'.heap.size w' b/\Gr w w'/\Rdr w' w.heap.size s n (readS s.data.toList).2:=by
 have hsz:s.data.toList.length=s.size:=by simp
 refine (ways_all (by omega) (s.data.toList.length+1) _ 0 _ (rdr_new w s) (Nat.lt_succ_self _) ⟨by simp only;omega,by simp only;omega⟩).mono ?_;rintro e w' ⟨b,n,he,h1,h2,h3⟩;refine ⟨b,n,he,?_,GX.gr (Gr.alloc (Gr.refl w) _) h2 (Nat.le_refl _),h3⟩;have e:(w.alloc (.cells #[.string s, .int .i64 0, .int .i64 0, .int .i64 0, .bool false, .bool false] 156)).heap.size-1=w.heap.size:=by simp
 rw[e] at h1;exact h1
theorem comp_over (s:ByteArray) (hs:s.size<=500) (w:World) (hv:(readS s.data.toList).2.over=true):Calls Tryz.prog 51 #[.string s] w (RetC w s.data.toList):=by
 have HE:=Lib.hid (by simp[errX,hv]:errX s.data.toList=12);have hs1:(s.size:Int)<=500:=by omega
 obtain ⟨q,hq⟩:∃q,q=(readS s.data.toList).2:=⟨_,rfl⟩
 obtain ⟨p,hp⟩:∃p,p=(readS s.data.toList).1:=⟨_,rfl⟩
 rw[<-hq] at hv;have Hq:=Lib.hid (And.intro hq hp);have HW:=ways_read (w.alloc (.cells #[.int .i64 0, .slice none 0 0] 71)) s hs;rw[<-hq,<-hp] at HW;have hzz:(w.alloc (.cells #[.int .i64 0, .slice none 0 0] 71)).heap.size=w.heap.size+1:=by simp
 rw[hzz] at HW;clear hzz;clear hq hp;go_enter Tryz.func51,Tryz.ntmps51;go_upto_region 5 with (go_at_call 79;refine HW.mono ?_;rintro e w3 ⟨b,m,rfl,hin,hg3,hR⟩)
 clear HW;obtain ⟨c0,c1,c2,c4,c5⟩:=And.intro hR.c0 (And.intro hR.c1 (And.intro hR.c2 (And.intro hR.c4 hR.c5)));have hrz:=hR.lt;have hrl:=hR.len;have Hin:=Lib.hid (And.intro hin hR);have hz3:w.heap.size+1<=w3.heap.size:=by have:=hg3.size;simp at this;omega
 have hcb0:w3.cell? ⟨w.heap.size,0,none⟩=some (.int .i64 0):=(hg3.cell (p:=⟨w.heap.size,0,none⟩) (by simp)).trans (by go_simp);have hcb1:w3.cell? ⟨w.heap.size,1,none⟩=some (.slice none 0 0):=(hg3.cell (p:=⟨w.heap.size,1,none⟩) (by simp)).trans (by go_simp);have hfb0:w3.frozen? ⟨w.heap.size,0,none⟩=false:=(hg3.frozen (p:=⟨w.heap.size,0,none⟩) (by simp)).trans (by go_simp);have hfb1:w3.frozen? ⟨w.heap.size,1,none⟩=false:=(hg3.frozen (p:=⟨w.heap.size,1,none⟩) (by simp)).trans (by go_simp);clear hin hR;rw[hv] at c5;have hg9:=hg3;go_wp2;refine bodyPost_ret (v:= .tuple #[.agg #[.int .i64 0, .slice none 0 0], .int .i64 12]) (by simp[results,Tryz.results51,go_sem, *]) rfl ?_;exact RetC.err HE.out rfl (((Gr.alloc (Gr.refl w) _).trans hg9).setCell (by simp) _ |>.setCell (by simp) _)
theorem comp_bad (s:ByteArray) (hs:s.size<=500) (w:World) (hv:(readS s.data.toList).2.over=false) (hb:(readS s.data.toList).2.bad=true):Calls Tryz.prog 51 #[.string s] w (RetC w s.data.toList):=by
 have HE:=Lib.hid (by simp[errX,hv,hb]:errX s.data.toList=8);have hs1:(s.size:Int)<=500:=by omega
 obtain ⟨q,hq⟩:∃q,q=(readS s.data.toList).2:=⟨_,rfl⟩
 obtain ⟨p,hp⟩:∃p,p=(readS s.data.toList).1:=⟨_,rfl⟩
 rw[<-hq] at hv hb;have Hq:=Lib.hid (And.intro hq hp);have HW:=ways_read (w.alloc (.cells #[.int .i64 0, .slice none 0 0] 71)) s hs;rw[<-hq,<-hp] at HW;have hzz:(w.alloc (.cells #[.int .i64 0, .slice none 0 0] 71)).heap.size=w.heap.size+1:=by simp
 rw[hzz] at HW;clear hzz;clear hq hp;go_enter Tryz.func51,Tryz.ntmps51;go_upto_region 5 with (go_at_call 79;refine HW.mono ?_;rintro e w3 ⟨b,m,rfl,hin,hg3,hR⟩)
 clear HW;obtain ⟨c0,c1,c2,c4,c5⟩:=And.intro hR.c0 (And.intro hR.c1 (And.intro hR.c2 (And.intro hR.c4 hR.c5)));have hrz:=hR.lt;have hrl:=hR.len;have Hin:=Lib.hid (And.intro hin hR);have hz3:w.heap.size+1<=w3.heap.size:=by have:=hg3.size;simp at this;omega
 have hcb0:w3.cell? ⟨w.heap.size,0,none⟩=some (.int .i64 0):=(hg3.cell (p:=⟨w.heap.size,0,none⟩) (by simp)).trans (by go_simp);have hcb1:w3.cell? ⟨w.heap.size,1,none⟩=some (.slice none 0 0):=(hg3.cell (p:=⟨w.heap.size,1,none⟩) (by simp)).trans (by go_simp);have hfb0:w3.frozen? ⟨w.heap.size,0,none⟩=false:=(hg3.frozen (p:=⟨w.heap.size,0,none⟩) (by simp)).trans (by go_simp);have hfb1:w3.frozen? ⟨w.heap.size,1,none⟩=false:=(hg3.frozen (p:=⟨w.heap.size,1,none⟩) (by simp)).trans (by go_simp);clear hin hR;rw[hv] at c5;rw[hb] at c4;clear hv hb hrl;go_upto_region 7 with (fail)
 clear c5;refine region_R (by kernel_rfl) (by kernel_rfl) ?_;(iterate 3 refine rv ?_);refine rv ?_ (h:=λW hW=>by have g1:=bc hW hrz c4;go_light;go_simp<;>rfl);refine rv ?_;(iterate 12 refine rs ?_);(iterate 2 refine rv ?_);refine r_nil ?_;intro w5 hw5;have c0':=bc hw5 hrz c0;have c2':=bc hw5 hrz c2;have hb0':=bc hw5 (by show w.heap.size<_;omega) hcb0;have hb1':=bc hw5 (by show w.heap.size<_;omega) hcb1;have hf0':=bf hw5 (by show w.heap.size<_;omega) hfb0;have hf1':=bf hw5 (by show w.heap.size<_;omega) hfb1;have hg9:=hg3.trans hw5;have hz5:w.heap.size+1<w5.heap.size:=Nat.lt_of_lt_of_le hrz hw5.size;clear c0 c1 c2 c4 hcb0 hcb1 hfb0 hfb1;go_wp2;refine bodyPost_ret (v:= .tuple #[.agg #[.int .i64 0, .slice none 0 0], .int .i64 8]) (by simp[results,Tryz.results51,go_sem, *]) rfl ?_;exact RetC.err HE.out rfl (((Gr.alloc (Gr.refl w) _).trans hg9).setCell (by simp) _ |>.setCell (by simp) _)
theorem comp_rest (s:ByteArray) (hs:s.size<=500) (w:World) (hv:(readS s.data.toList).2.over=false) (hb:(readS s.data.toList).2.bad=false) (hr:(readS s.data.toList).2.rest≠[]):Calls Tryz.prog 51 #[.string s] w (RetC w s.data.toList):=by
 have HE:=Lib.hid (by simp[errX,hv,hb,List.isEmpty_eq_false_iff.2 hr]:errX s.data.toList=8);have hs1:(s.size:Int)<=500:=by omega
 obtain ⟨q,hq⟩:∃q,q=(readS s.data.toList).2:=⟨_,rfl⟩
 obtain ⟨p,hp⟩:∃p,p=(readS s.data.toList).1:=⟨_,rfl⟩
 rw[<-hq] at hv hb hr;have Hq:=Lib.hid (And.intro hq hp);have HW:=ways_read (w.alloc (.cells #[.int .i64 0, .slice none 0 0] 71)) s hs;rw[<-hq,<-hp] at HW;have hzz:(w.alloc (.cells #[.int .i64 0, .slice none 0 0] 71)).heap.size=w.heap.size+1:=by simp
 rw[hzz] at HW;clear hzz;clear hq hp;go_enter Tryz.func51,Tryz.ntmps51;go_upto_region 5 with (go_at_call 79;refine HW.mono ?_;rintro e w3 ⟨b,m,rfl,hin,hg3,hR⟩)
 clear HW;obtain ⟨c0,c1,c2,c4,c5⟩:=And.intro hR.c0 (And.intro hR.c1 (And.intro hR.c2 (And.intro hR.c4 hR.c5)));have hrz:=hR.lt;have hrl:=hR.len;have Hin:=Lib.hid (And.intro hin hR);have hz3:w.heap.size+1<=w3.heap.size:=by have:=hg3.size;simp at this;omega
 have hcb0:w3.cell? ⟨w.heap.size,0,none⟩=some (.int .i64 0):=(hg3.cell (p:=⟨w.heap.size,0,none⟩) (by simp)).trans (by go_simp);have hcb1:w3.cell? ⟨w.heap.size,1,none⟩=some (.slice none 0 0):=(hg3.cell (p:=⟨w.heap.size,1,none⟩) (by simp)).trans (by go_simp);have hfb0:w3.frozen? ⟨w.heap.size,0,none⟩=false:=(hg3.frozen (p:=⟨w.heap.size,0,none⟩) (by simp)).trans (by go_simp);have hfb1:w3.frozen? ⟨w.heap.size,1,none⟩=false:=(hg3.frozen (p:=⟨w.heap.size,1,none⟩) (by simp)).trans (by go_simp);clear hin hR;rw[hv] at c5;rw[hb] at c4;have hr0:0<q.rest.length:=List.length_pos_iff.2 hr;have hm:decide (m<s.size)=true:=by simp;omega
 clear hv hb hrl hr hr0;go_upto_region 7 with (fail)
 clear c5;refine region_R (by kernel_rfl) (by kernel_rfl) ?_;(iterate 3 refine rv ?_);refine rv ?_ (h:=λW hW=>by have g1:=bc hW hrz c4;go_light;go_simp<;>rfl);(iterate 5 refine rv ?_);refine rv ?_ (h:=λW hW=>by have g1:=bc hW hrz c1;go_light;go_simp<;>rfl);(iterate 4 refine rv ?_);refine rv ?_ (h:=λW hW=>by have g1:=bc hW hrz c0;go_light;go_simp<;>rfl);(iterate 4 refine rv ?_);refine r_nil ?_;intro w5 hw5;have c0':=bc hw5 hrz c0;have c2':=bc hw5 hrz c2;have hb0':=bc hw5 (by show w.heap.size<_;omega) hcb0;have hb1':=bc hw5 (by show w.heap.size<_;omega) hcb1;have hf0':=bf hw5 (by show w.heap.size<_;omega) hfb0;have hf1':=bf hw5 (by show w.heap.size<_;omega) hfb1;have hg9:=hg3.trans hw5;have hz5:w.heap.size+1<w5.heap.size:=Nat.lt_of_lt_of_le hrz hw5.size;clear c0 c1 c2 c4 hcb0 hcb1 hfb0 hfb1;clear hm;go_wp2;refine bodyPost_ret (v:= .tuple #[.agg #[.int .i64 0, .slice none 0 0], .int .i64 8]) (by simp[results,Tryz.results51,go_sem, *]) rfl ?_;exact RetC.err HE.out rfl (((Gr.alloc (Gr.refl w) _).trans hg9).setCell (by simp) _ |>.setCell (by simp) _)
theorem comp_ok (s:ByteArray) (hs:s.size<=500) (w:World) (hWR:WayOk s) (hKP:KP (readS s.data.toList).1) (hv:(readS s.data.toList).2.over=false) (hb:(readS s.data.toList).2.bad=false) (hr:(readS s.data.toList).2.rest=[]):Calls Tryz.prog 51 #[.string s] w (RetC w s.data.toList):=by
 have hE:errX s.data.toList=0:=by simp[errX,hv,hb,hr]
 have HE:=Lib.hid hE;have hsz:=readS_sz (s:=s.data.toList) (by simp;exact hs);have HG:=Lib.hid (And.intro (by simp[grpX,hE]:grpX s.data.toList=(readS s.data.toList).2.groups) (by simp[codeY,hE,codeX]:codeY s.data.toList=⟨4,0,0,[]⟩::((readS s.data.toList).1.lay 1++[⟨4,1,0,[]⟩,⟨7,0,0,[]⟩])));have hs1:(s.size:Int)<=500:=by omega
 obtain ⟨q,hq⟩:∃q,q=(readS s.data.toList).2:=⟨_,rfl⟩
 obtain ⟨p,hp⟩:∃p,p=(readS s.data.toList).1:=⟨_,rfl⟩
 rw[<-hq] at hv hb hr HG;rw[<-hp] at HG hsz hKP;have HKP:=Lib.hid hKP;clear hKP;obtain ⟨hsz1,hsz2⟩:=hsz;have Hok:=Lib.hid hsz2;clear hE hsz2;have Hq:=Lib.hid (And.intro hq hp);have HW:=hWR (w.alloc (.cells #[.int .i64 0, .slice none 0 0] 71));clear hWR;rw[<-hq,<-hp] at HW;have hzz:(w.alloc (.cells #[.int .i64 0, .slice none 0 0] 71)).heap.size=w.heap.size+1:=by simp
 rw[hzz] at HW;clear hzz;clear hq hp;go_enter Tryz.func51,Tryz.ntmps51;go_upto_region 5 with (go_at_call 79;refine HW.mono ?_;rintro e w3 ⟨b,m,rfl,hin,hg3,hR⟩)
 clear HW;obtain ⟨c0,c1,c2,c4,c5⟩:=And.intro hR.c0 (And.intro hR.c1 (And.intro hR.c2 (And.intro hR.c4 hR.c5)));have hrz:=hR.lt;have hrl:=hR.len;have Hin:=Lib.hid (And.intro hin hR);have hz3:w.heap.size+1<=w3.heap.size:=by have:=hg3.size;simp at this;omega
 have hcb0:w3.cell? ⟨w.heap.size,0,none⟩=some (.int .i64 0):=(hg3.cell (p:=⟨w.heap.size,0,none⟩) (by simp)).trans (by go_simp);have hcb1:w3.cell? ⟨w.heap.size,1,none⟩=some (.slice none 0 0):=(hg3.cell (p:=⟨w.heap.size,1,none⟩) (by simp)).trans (by go_simp);have hfb0:w3.frozen? ⟨w.heap.size,0,none⟩=false:=(hg3.frozen (p:=⟨w.heap.size,0,none⟩) (by simp)).trans (by go_simp);have hfb1:w3.frozen? ⟨w.heap.size,1,none⟩=false:=(hg3.frozen (p:=⟨w.heap.size,1,none⟩) (by simp)).trans (by go_simp);clear hin hR;rw[hv] at c5;rw[hb] at c4;have hm:decide (m<s.size)=false:=by rw[hr] at hrl;simp at hrl ⊢;omega
 clear hv hb hrl hr;go_upto_region 7 with (fail)
 clear c5;refine region_R (by kernel_rfl) (by kernel_rfl) ?_;(iterate 3 refine rv ?_);refine rv ?_ (h:=λW hW=>by have g1:=bc hW hrz c4;go_light;go_simp<;>rfl);(iterate 5 refine rv ?_);refine rv ?_ (h:=λW hW=>by have g1:=bc hW hrz c1;go_light;go_simp<;>rfl);(iterate 4 refine rv ?_);refine rv ?_ (h:=λW hW=>by have g1:=bc hW hrz c0;go_light;go_simp<;>rfl);(iterate 4 refine rv ?_);refine r_nil ?_;intro w5 hw5;have c0':=bc hw5 hrz c0;have c2':=bc hw5 hrz c2;have hb0':=bc hw5 (by show w.heap.size<_;omega) hcb0;have hb1':=bc hw5 (by show w.heap.size<_;omega) hcb1;have hf0':=bf hw5 (by show w.heap.size<_;omega) hfb0;have hf1':=bf hw5 (by show w.heap.size<_;omega) hfb1;have hg9:=hg3.trans hw5;have hz5:w.heap.size+1<w5.heap.size:=Nat.lt_of_lt_of_le hrz hw5.size;clear c0 c1 c2 c4 hcb0 hcb1 hfb0 hfb1;clear hm c0';have Hg9:=Lib.hid (And.intro hg9 (And.intro hg3 hw5));have hz35:=hw5.size;clear hg9 hg3 hw5;go_upto_region 11 with (go_at_call 80;refine (lays_first w5).mono ?_;rintro e w6 ⟨rfl,A6,hB6,hX6⟩)
 obtain ⟨B,hB⟩:∃B,B=w5.heap.size:=⟨_,rfl⟩
 rw[<-hB] at hB6 hX6 ⊢;have hx6:WX B (w5.alloc (.cells #[.slice none 0 0] 161)) none w6 (blk A6):=hX6;have hg6:Gr w5 w6:=hx6.gr_new (Gr.alloc (Gr.refl _) _) (by omega) (λk h=>by cases h);have hS6:Same (w.heap.size+1) w3.heap.size w3 w6:=(Same.gr Hg9.out.2.2 (Nat.le_refl _)).trans (Same.gr hg6 hz35);have HP:=HKP.out w6 B A6 [⟨4,0,0,[]⟩] b (w.heap.size+1) w3.heap.size hB6 (Pc.In.same hS6 _ _ Hin.out.1) (by omega) (by decide) (by simp;omega) Hok.out;have Hh6:=Lib.hid (And.intro hx6 hB6);have HB:=Lib.hid hB;have hB5:w5.heap.size<=B:=Nat.le_of_eq hB.symm;clear hx6 hg6 hS6 hX6 hB6 hB;go_upto_region 12 with (go_at_call 81;refine HP.mono ?_;rintro e w7 ⟨rfl,A7,hB7,hX7⟩)
 clear HP;obtain ⟨code7,hc7⟩:∃c:List In,c=[⟨4,0,0,[]⟩]++p.lay ([⟨4,0,0,[]⟩]:List In).length:=⟨_,rfl⟩
 rw[<-hc7] at hB7;have hl7:code7.length<=1001:=by rw[hc7,List.length_append,Pc.lay_len];simp;omega
 have Hc7:=Lib.hid hc7;clear hc7;go_upto_region 13 with (go_at_call 80;refine (lays_two hB7 ⟨4,1,0,[]⟩ ⟨7,0,0,[]⟩ (by omega)).mono ?_;rintro e w8 ⟨rfl,A8,hB8,hX8⟩)
 obtain ⟨code8,hc8⟩:∃c:List In,c=code7++[⟨4,1,0,[]⟩,⟨7,0,0,[]⟩]:=⟨_,rfl⟩
 rw[<-hc8] at hB8;have hful:decide (1024<(code8.length:Int))=false:=by rw[hc8];simp;omega
 have Hc8:=Lib.hid hc8;have hX:=(Hh6.out.1.trans hX7).trans hX8;have hg8:Gr w5 w8:=hX.gr_new (Gr.alloc (Gr.refl _) _) (by omega) (λk h=>by cases h);have d2:=(hg8.cell (p:=⟨w.heap.size+1,2,none⟩) hz5).trans c2';have e0:=(hg8.cell (p:=⟨w.heap.size,0,none⟩) (by show w.heap.size<_;omega)).trans hb0';have e1:=(hg8.cell (p:=⟨w.heap.size,1,none⟩) (by show w.heap.size<_;omega)).trans hb1';have f0:=(hg8.frozen (p:=⟨w.heap.size,0,none⟩) (by show w.heap.size<_;omega)).trans hf0';have f1:=(hg8.frozen (p:=⟨w.heap.size,1,none⟩) (by show w.heap.size<_;omega)).trans hf1';have hz8:w.heap.size+1<w8.heap.size:=Nat.lt_of_lt_of_le hz5 hg8.size;have Hg8:=Lib.hid (And.intro hg8 hB8);clear hc8 hB7 hX7 hX8 hX hg8 c2' hb0' hb1' hf0' hf1';go_upto_region 15 with (go_at_call 82;refine (full_any hB8).mono ?_;rintro e w8' ⟨rfl,rfl⟩)
 clear hful;obtain ⟨c8,hw8, -⟩:=id hB8;have hb8:=hB8.lt;clear hB8;refine region_T 9 (by kernel_rfl) (by kernel_rfl) ?_;simp only[List.take];(iterate 3 refine qv ?_);refine qv ?_ (h:=λW hW=>by have g1:=bc hW hz8 d2;go_simp<;>rfl);(iterate 3 refine qv ?_);refine qv ?_ (h:=λW hW=>by have g1:=bc hW hb8 hw8;go_simp<;>rfl);refine qv ?_;refine wpQuiet_nil ?_;intro w9 hw9;simp only[List.drop];have k0:=bc hw9 (by show w.heap.size<_;omega) e0;have k1:=bc hw9 (by show w.heap.size<_;omega) e1;have l0:=bf hw9 (by show w.heap.size<_;omega) f0;have l1:=bf hw9 (by show w.heap.size<_;omega) f1;have hz9:w.heap.size+1<w9.heap.size:=Nat.lt_of_lt_of_le hz8 hw9.size;clear d2 e0 e1 f0 f1 hw8;go_wp2;refine bodyPost_ret (v:= .tuple #[.agg #[.int .i64 q.groups, .slice A8 code8.length c8], .int .i64 0]) (by simp[results,Tryz.results51,go_sem, *]) rfl ?_;have hcode:code8=codeY s.data.toList:=by rw[Hc8.out,Hc7.out,HG.out.2];simp
 obtain ⟨hg8,hB8⟩:=Hg8.out;obtain ⟨c', -, -,own, -⟩:=hB8.gr hw9;have hgw:Gr w w9:=((Gr.alloc (Gr.refl w) _).trans Hg9.out.1).trans (hg8.trans hw9);refine ⟨A8,c8,?_,?_,(hgw.setCell (by simp) _).setCell (by simp) _,λad h=>?_⟩
 ·rw[HE.out,HG.out.1,hcode]
 ·rw[<-hcode];exact Rd.own (own_setX (own_setX own (p:=⟨w.heap.size,0,none⟩) (by show w.heap.size<_;omega) _) (p:=⟨w.heap.size,1,none⟩) (by show w.heap.size<_;omega) _)
 ·have h5:=(own.lt ad.block (by rw[h];rfl)).1;obtain ⟨g,hg⟩:=hB8.form (by rw[Hc8.out];simp);rw[hg] at h;injection h with h;subst h;exact ⟨rfl,by have h6:B+1<=g:=h5;show w.heap.size<=g;omega⟩
theorem compile_any (s:ByteArray) (hs:s.size<=500) (w:World):Calls Tryz.prog 51 #[.string s] w (RetC w s.data.toList):=by
 cases hv:(readS s.data.toList).2.over with
 | true=>exact comp_over s hs w hv
 | false=>
  cases hb:(readS s.data.toList).2.bad with
  | true=>exact comp_bad s hs w hv hb
  | false=>
   by_cases hr:(readS s.data.toList).2.rest=[]
   ·exact comp_ok s hs w (λw=>ways_read w s hs) (put_all _) hv hb hr
   ·exact comp_rest s hs w hv hb hr
def hasS:List UInt8->Int->Bool
 | a::b::r,c=>(decide ((a.toNat:Int)<=c)&&decide (c<=(b.toNat:Int)))||hasS r c
 | [_],_=>false
 | [],_=>false
theorem hasS_yes {l:List UInt8} {c:Int} {k:Nat} (h:k+1<l.length) (h1:(l[k].toNat:Int)<=c) (h2:c<=(l[k+1].toNat:Int)):hasS (l.drop k) c=true:=by
 rw[List.drop_eq_getElem_cons (by omega:k<l.length),List.drop_eq_getElem_cons h];simp only[hasS,h1,h2,decide_true,Bool.and_self,Bool.true_or]
theorem hasS_no {l:List UInt8} {c:Int} {k:Nat} (h:k+1<l.length) (h1:¬((l[k].toNat:Int)<=c/\c<=(l[k+1].toNat:Int))):hasS (l.drop k) c=hasS (l.drop (k+2)) c:=by
 rw[List.drop_eq_getElem_cons (by omega:k<l.length),List.drop_eq_getElem_cons h];have e:(decide ((l[k].toNat:Int)<=c)&&decide (c<=(l[k+1].toNat:Int)))=false:=by
  rw[<-Bool.decide_and];exact decide_eq_false h1
 simp only[hasS,e,Bool.false_or]
theorem hasS_end {l:List UInt8} {c:Int} {k:Nat} (h:¬k+1<l.length):hasS (l.drop k) c=false:=by
 match e:l.drop k with
 | []=>rfl
 | [_]=>rfl
 | a::b::r=>
  have:=congrArg List.length e;simp at this;omega
theorem has_any (s:ByteArray) (hs:(s.size:Int)<=9223372036854775800) (c:Int) (w:World):Calls Tryz.prog 90 #[.string s, .int .u8 c] w λe w'=>e= .returned (.bool (hasS s.data.toList c))/\w=w':=by
 obtain ⟨R,hR⟩:∃R,R=hasS s.data.toList c:=⟨_,rfl⟩
 rw[<-hR];have HR:=Lib.hid hR;clear hR;go_enter Tryz.func90,Tryz.ntmps90;go_wp2
 go_loop [5] (λi=>∃k:Nat,k<=s.size+1/\i= .int .i64 k/\R=hasS (s.data.toList.drop k) c) (λi=>s.size+2-(intOf i).toNat)
 case atStart=>exact ⟨0,by omega,rfl,HR.out⟩
 case round=>
  obtain ⟨k,hk,rfl,hE⟩:=hrel;have HE:=Lib.hid hE;clear hE;by_cases hlt:k+1<s.size
  ·have hlt':(k:Int)+1<(s.size:Int):=by omega
   have hk0:k<s.size:=by omega
   have hkl:k+1<s.data.toList.length:=by simpa using hlt
   have e1:s.data.toList[k]'(by omega)=s[k]:=rfl;have e2:s.data.toList[k+1]=s[k+1]:=rfl;have HEE:=Lib.hid (And.intro e1 e2);clear e1 e2;by_cases h1:((s[k]).toNat:Int)<=c
   ·by_cases h2:c<=((s[k+1]).toNat:Int)
    ·go_wp2;go_ret;have:=hasS_yes (l:=s.data.toList) (c:=c) hkl (by rw[HEE.out.1];exact h1) (by rw[HEE.out.2];exact h2);rw[HE.out,this];exact ⟨rfl,rfl⟩
    ·go_wp2;go_round;case rel=>exact ⟨k+2,by omega,by go_num,by rw[HE.out];exact hasS_no hkl (by rw[HEE.out.1,HEE.out.2];exact λh=>absurd h.2 (by omega))⟩
     case measure=>simp[intOf];omega
   ·go_wp2;go_round;case rel=>exact ⟨k+2,by omega,by go_num,by rw[HE.out];exact hasS_no hkl (by rw[HEE.out.1,HEE.out.2];exact λh=>absurd h.1 (by omega))⟩
    case measure=>simp[intOf];omega
  ·have hge:¬(k:Int)+1<(s.size:Int):=by omega
   go_wp2;go_ret;have:=hasS_end (l:=s.data.toList) (c:=c) (k:=k) (by simpa using hlt);rw[HE.out,this];exact ⟨rfl,rfl⟩
theorem rhas_any (s:ByteArray) (hs:(s.size:Int)<=9223372036854775800) (c:Int) (w:World):Calls Tryz.prog 130 #[.string s, .int .u8 c] w λe w'=>e= .returned (.bool (hasS s.data.toList c))/\w=w':=by
 obtain ⟨R,hR⟩:∃R,R=hasS s.data.toList c:=⟨_,rfl⟩
 rw[<-hR];have HR:=Lib.hid hR;clear hR;go_enter Tryz.func130,Tryz.ntmps130;go_wp2
 go_loop [5] (λi=>∃k:Nat,k<=s.size+1/\i= .int .i64 k/\R=hasS (s.data.toList.drop k) c) (λi=>s.size+2-(intOf i).toNat)
 case atStart=>exact ⟨0,by omega,rfl,HR.out⟩
 case round=>
  obtain ⟨k,hk,rfl,hE⟩:=hrel;have HE:=Lib.hid hE;clear hE;by_cases hlt:k+1<s.size
  ·have hlt':(k:Int)+1<(s.size:Int):=by omega
   have hk0:k<s.size:=by omega
   have hkl:k+1<s.data.toList.length:=by simpa using hlt
   have e1:s.data.toList[k]'(by omega)=s[k]:=rfl;have e2:s.data.toList[k+1]=s[k+1]:=rfl;have HEE:=Lib.hid (And.intro e1 e2);clear e1 e2;by_cases h1:((s[k]).toNat:Int)<=c
   ·by_cases h2:c<=((s[k+1]).toNat:Int)
    ·go_wp2;go_ret;have:=hasS_yes (l:=s.data.toList) (c:=c) hkl (by rw[HEE.out.1];exact h1) (by rw[HEE.out.2];exact h2);rw[HE.out,this];exact ⟨rfl,rfl⟩
    ·go_wp2;go_round;case rel=>exact ⟨k+2,by omega,by go_num,by rw[HE.out];exact hasS_no hkl (by rw[HEE.out.1,HEE.out.2];exact λh=>absurd h.2 (by omega))⟩
     case measure=>simp[intOf];omega
   ·go_wp2;go_round;case rel=>exact ⟨k+2,by omega,by go_num,by rw[HE.out];exact hasS_no hkl (by rw[HEE.out.1,HEE.out.2];exact λh=>absurd h.1 (by omega))⟩
    case measure=>simp[intOf];omega
  ·have hge:¬(k:Int)+1<(s.size:Int):=by omega
   go_wp2;go_ret;have:=hasS_end (l:=s.data.toList) (c:=c) (k:=k) (by simpa using hlt);rw[HE.out,this];exact ⟨rfl,rfl⟩
theorem toNat_ofNat {k:Nat} (h:k<256):(UInt8.ofNat k).toNat=k:=by simp;omega
def alnB (b:Nat):Bool:=(Nat.ble 97 b&&Nat.ble b 122)||((Nat.ble 65 b&&Nat.ble b 90)||(Nat.ble 48 b&&Nat.ble b 57))
end Go.Proofs.YtjapddfnpmlifaaGreatDoor
