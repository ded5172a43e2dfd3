import Derived.Test.YtnphdacibageiaaGreatRunFpRow
import Derived.Test.YtnphdacibageiaaGreatRunFxBase
import Derived.BigQuiet
import Derived.Test.YtnphdacibageiaaGreatFpShelf
import Derived.Shelf.SlSortCmp.InsertionK
set_option linter.all false
set_option maxRecDepth 1000000
set_option maxHeartbeats 12800000
namespace Go.Proofs.YtnphdacibageiaaGreat
open Go.RowKit
section
variable {P:Program} {w:World}
theorem wp_append_rd {o:Oper} {a:Act} {Q:Exit→Act→World→Prop} {K:Act→World→Prop} (s x:Operand) (t:TypeId)
  (ho:o.op= .call {callee:= .builtin .append,args:= #[s,x],argTypes:= #[t,t]})
  (base:Nat) (e:TypeId) (i:TypeInfo) (z:Value) (size bytes:Nat) (ht:P.underlying t=some (.slice e)) (hi:P.info? e=some i) (hz:i.zero=some z)
  (hsize:i.size=size) (hby:i.bytes=bytes) (hzs:z.cells.size=size) (hsz:0<size)
  (v:Value) (n:Nat) (xs:List Value) (hs:a.eval s=v) (hown:w.ownsRow base e size v n xs)
  (ad:Addr) (m c:Nat) (news:List Value) (hx:a.eval x= .slice (some ad) m c) (hr:Rd w size (some ad) m news) (hm:0<m) (h1:∀u∈news,u.oneCell'=true)
  (h63:n+m≤maxLen) (hbytes:(n+m)*bytes≤140737488355328) (hbase:base≤w.heap.size)
  (h:∀v' w',w'.ownsRow base e size v' (n+m) (xs++news)→w.grownBy w' v.ownBlock→(v'.ownBlock=v.ownBlock∨v'.ownBlock=some w.heap.size)→K (a.put o.dst v') w'):Oper.wp P o a w K Q:=by
 obtain ⟨ad',e',_,hc⟩:=hr.2 hm
 injection e' with e'
 subst e'
 obtain ⟨v',w',hr1,h2,h3,_,h4⟩:=run_append_own_at (P:=P) w base t o.type e i z size bytes ht hi hz hsize hby hzs hsz v n xs hown ad m c news hr.1 hc h1 h63 hbytes hbase
 unfold Oper.wp execOp
 simp only[ho,resolve,invoke,builtin,Sem.run_bind,Sem.run_pure,Result.andThen_ok,List.map_toArray,List.map_cons,List.map_nil,hs,hx,hr1]
 exact h v' w' h2 h3 h4
end
def FC (s:Sr) (A:Option Addr) (c:Nat) (start step:Int) (B0 B9:Nat) (A':Option Addr) (k c':Nat) (W:World):Prop:=
 W.cell? ⟨B0,0,none⟩=some (.string s.name)∧
 W.cell? ⟨B0,1,none⟩=some (.int .i64 s.start)∧
 W.cell? ⟨B0,2,none⟩=some (.int .i64 s.step)∧
 W.cell? ⟨B0,3,none⟩=some (.slice A s.vals.length c)∧
 W.cell? ⟨B0,4,none⟩=some (.int .i64 s.cons)∧
 W.cell? ⟨B0+1,0,none⟩=some (.string ⟨#[]⟩)∧
 W.cell? ⟨B0+1,1,none⟩=some (.int .i64 0)∧
 W.cell? ⟨B0+1,2,none⟩=some (.int .i64 0)∧
 W.cell? ⟨B0+1,3,none⟩=some (.slice none 0 0)∧
 W.cell? ⟨B0+1,4,none⟩=some (.int .i64 0)∧
 W.frozen? ⟨B0+1,0,none⟩=false∧
 W.frozen? ⟨B0+1,1,none⟩=false∧
 W.frozen? ⟨B0+1,2,none⟩=false∧
 W.frozen? ⟨B0+1,3,none⟩=false∧
 W.frozen? ⟨B0+1,4,none⟩=false∧
 W.cell? ⟨B9,0,none⟩=some (.string s.name)∧
 W.cell? ⟨B9,1,none⟩=some (.int .i64 start)∧
 W.cell? ⟨B9,2,none⟩=some (.int .i64 step)∧
 W.cell? ⟨B9,3,none⟩=some ((.slice A' k c'))∧
 W.cell? ⟨B9,4,none⟩=some (.int .i64 s.cons)∧
 W.frozen? ⟨B9,3,none⟩=false∧
 B9<W.heap.size
theorem FC.below {s:Sr} {A:Option Addr} {c:Nat} {start step:Int} {B0 B9:Nat} {A':Option Addr} {k c':Nat} {W W':World} (h:FC s A c start step B0 B9 A' k c' W) (hz:B0+1<B9) (g:Below (B9+1) W W'):FC s A c start step B0 B9 A' k c' W':=by
 obtain ⟨q0,q1,q2,q3,q4,p0,p1,p2,p3,p4,g0,g1,g2,g3,g4,o0,o1,o2,o3,o4,f3,sz⟩:=h
 have h0:B0<B9+1:=by omega
 have h1:B0+1<B9+1:=by omega
 have h2:B9<B9+1:=by omega
 exact ⟨(g.cell (p:=⟨B0,0,none⟩) h0).trans q0,(g.cell (p:=⟨B0,1,none⟩) h0).trans q1,(g.cell (p:=⟨B0,2,none⟩) h0).trans q2,(g.cell (p:=⟨B0,3,none⟩) h0).trans q3,(g.cell (p:=⟨B0,4,none⟩) h0).trans q4,(g.cell (p:=⟨B0+1,0,none⟩) h1).trans p0,(g.cell (p:=⟨B0+1,1,none⟩) h1).trans p1,(g.cell (p:=⟨B0+1,2,none⟩) h1).trans p2,(g.cell (p:=⟨B0+1,3,none⟩) h1).trans p3,(g.cell (p:=⟨B0+1,4,none⟩) h1).trans p4,(g.frozen (p:=⟨B0+1,0,none⟩) h1).trans g0,(g.frozen (p:=⟨B0+1,1,none⟩) h1).trans g1,(g.frozen (p:=⟨B0+1,2,none⟩) h1).trans g2,(g.frozen (p:=⟨B0+1,3,none⟩) h1).trans g3,(g.frozen (p:=⟨B0+1,4,none⟩) h1).trans g4,(g.cell (p:=⟨B9,0,none⟩) h2).trans o0,(g.cell (p:=⟨B9,1,none⟩) h2).trans o1,(g.cell (p:=⟨B9,2,none⟩) h2).trans o2,(g.cell (p:=⟨B9,3,none⟩) h2).trans o3,(g.cell (p:=⟨B9,4,none⟩) h2).trans o4,(g.frozen (p:=⟨B9,3,none⟩) h2).trans f3,Nat.lt_of_lt_of_le sz g.size⟩
theorem FC.gr {s:Sr} {A:Option Addr} {c:Nat} {start step:Int} {B0 B9:Nat} {A':Option Addr} {k c':Nat} {W W':World} (h:FC s A c start step B0 B9 A' k c' W) (hz:B0+1<B9) (g:Gr W W'):FC s A c start step B0 B9 A' k c' W':=
 h.below hz (Below.mono g (by obtain ⟨_,_,_,_,_,_,_,_,_,_,_,_,_,_,_,_,_,_,_,_,_,sz⟩:=h;omega))
theorem FC.set {s:Sr} {A:Option Addr} {c:Nat} {start step:Int} {B0 B9:Nat} {A':Option Addr} {k c':Nat} {W:World} (h:FC s A c start step B0 B9 A' k c' W) (hz:B0+1<B9) (A2:Option Addr) (k2 c2:Nat) :
  FC s A c start step B0 B9 A2 k2 c2 (W.setCell ⟨B9,3,none⟩ (.slice A2 k2 c2)):=by
 obtain ⟨q0,q1,q2,q3,q4,p0,p1,p2,p3,p4,g0,g1,g2,g3,g4,o0,o1,o2,o3,o4,f3,sz⟩:=h
 have n0:B9≠B0:=by omega
 have n1:B9≠B0+1:=by omega
 refine ⟨?_,?_,?_,?_,?_,?_,?_,?_,?_,?_,?_,?_,?_,?_,?_,?_,?_,?_,?_,?_,?_,?_⟩
 ·
  exact (World.cell?_setCell_far W ⟨B9,3,none⟩ ⟨B0,0,none⟩ _ n0).trans q0
 ·
  exact (World.cell?_setCell_far W ⟨B9,3,none⟩ ⟨B0,1,none⟩ _ n0).trans q1
 ·
  exact (World.cell?_setCell_far W ⟨B9,3,none⟩ ⟨B0,2,none⟩ _ n0).trans q2
 ·
  exact (World.cell?_setCell_far W ⟨B9,3,none⟩ ⟨B0,3,none⟩ _ n0).trans q3
 ·
  exact (World.cell?_setCell_far W ⟨B9,3,none⟩ ⟨B0,4,none⟩ _ n0).trans q4
 ·
  exact (World.cell?_setCell_far W ⟨B9,3,none⟩ ⟨B0+1,0,none⟩ _ n1).trans p0
 ·
  exact (World.cell?_setCell_far W ⟨B9,3,none⟩ ⟨B0+1,1,none⟩ _ n1).trans p1
 ·
  exact (World.cell?_setCell_far W ⟨B9,3,none⟩ ⟨B0+1,2,none⟩ _ n1).trans p2
 ·
  exact (World.cell?_setCell_far W ⟨B9,3,none⟩ ⟨B0+1,3,none⟩ _ n1).trans p3
 ·
  exact (World.cell?_setCell_far W ⟨B9,3,none⟩ ⟨B0+1,4,none⟩ _ n1).trans p4
 ·
  exact (by simp:(W.setCell ⟨B9,3,none⟩ (.slice A2 k2 c2)).frozen? ⟨B0+1,0,none⟩=W.frozen? ⟨B0+1,0,none⟩).trans g0
 ·
  exact (by simp:(W.setCell ⟨B9,3,none⟩ (.slice A2 k2 c2)).frozen? ⟨B0+1,1,none⟩=W.frozen? ⟨B0+1,1,none⟩).trans g1
 ·
  exact (by simp:(W.setCell ⟨B9,3,none⟩ (.slice A2 k2 c2)).frozen? ⟨B0+1,2,none⟩=W.frozen? ⟨B0+1,2,none⟩).trans g2
 ·
  exact (by simp:(W.setCell ⟨B9,3,none⟩ (.slice A2 k2 c2)).frozen? ⟨B0+1,3,none⟩=W.frozen? ⟨B0+1,3,none⟩).trans g3
 ·
  exact (by simp:(W.setCell ⟨B9,3,none⟩ (.slice A2 k2 c2)).frozen? ⟨B0+1,4,none⟩=W.frozen? ⟨B0+1,4,none⟩).trans g4
 ·
  exact (World.cell?_setCell_other W ⟨B9,3,none⟩ ⟨B9,0,none⟩ _ (by simp)).trans o0
 ·
  exact (World.cell?_setCell_other W ⟨B9,3,none⟩ ⟨B9,1,none⟩ _ (by simp)).trans o1
 ·
  exact (World.cell?_setCell_other W ⟨B9,3,none⟩ ⟨B9,2,none⟩ _ (by simp)).trans o2
 ·
  go_simp
 ·
  exact (World.cell?_setCell_other W ⟨B9,3,none⟩ ⟨B9,4,none⟩ _ (by simp)).trans o4
 ·
  exact (by simp:(W.setCell ⟨B9,3,none⟩ (.slice A2 k2 c2)).frozen? ⟨B9,3,none⟩=W.frozen? ⟨B9,3,none⟩).trans f3
 ·
  simpa using sz
theorem own_at (B:Nat) (w:World) (hB:B=w.heap.size) (e:TypeId) (size:Nat):(w.alloc (.cells #[] e)).ownsRow B e size (.slice (some ⟨B,0,none⟩) 0 0) 0 []:=by
 subst hB;exact own_empty w _ (Nat.le_refl _) e size
theorem own_any (s:Sr) (A:Option Addr) (c:Nat) (w:World) (hl:s.vals.length≤1000000) (hr:Rv w A s.vals) :
  Calls Tryz.prog 28 #[.agg #[.string s.name, .int .i64 s.start, .int .i64 s.step, .slice A s.vals.length c, .int .i64 s.cons]] w (RetS s w):=by
 go_enter Tryz.func28,Tryz.ntmps28
 go_wp2_with fail
 refine (clone_any A c s.vals _ hl ?hr).mono ?_
 case hr=>exact hr.gr gq
 rintro e w1 ⟨A',c',rfl,hrv,hg,hnew⟩
 obtain ⟨hc,hf⟩:=hg.cells
 have z1:=hg.size
 simp at z1
 have z0:w.heap.size<w1.heap.size:=by omega
 have z2:w.heap.size+1<w1.heap.size:=by omega
 have hgw:Gr w w1:=gq
 have q0:w1.cell? ⟨w.heap.size,0,none⟩=some (.string s.name):=by go_simp
 have f0:w1.frozen? ⟨w.heap.size,0,none⟩=false:=by go_simp
 have q1:w1.cell? ⟨w.heap.size,1,none⟩=some (.int .i64 s.start):=by go_simp
 have f1:w1.frozen? ⟨w.heap.size,1,none⟩=false:=by go_simp
 have q2:w1.cell? ⟨w.heap.size,2,none⟩=some (.int .i64 s.step):=by go_simp
 have f2:w1.frozen? ⟨w.heap.size,2,none⟩=false:=by go_simp
 have q3:w1.cell? ⟨w.heap.size,3,none⟩=some (.slice A s.vals.length c):=by go_simp
 have f3:w1.frozen? ⟨w.heap.size,3,none⟩=false:=by go_simp
 have q4:w1.cell? ⟨w.heap.size,4,none⟩=some (.int .i64 s.cons):=by go_simp
 have f4:w1.frozen? ⟨w.heap.size,4,none⟩=false:=by go_simp
 have p0:w1.cell? ⟨w.heap.size+1,0,none⟩=some (.string ⟨#[]⟩):=by go_simp
 have g0:w1.frozen? ⟨w.heap.size+1,0,none⟩=false:=by go_simp
 have p1:w1.cell? ⟨w.heap.size+1,1,none⟩=some (.int .i64 0):=by go_simp
 have g1:w1.frozen? ⟨w.heap.size+1,1,none⟩=false:=by go_simp
 have p2:w1.cell? ⟨w.heap.size+1,2,none⟩=some (.int .i64 0):=by go_simp
 have g2:w1.frozen? ⟨w.heap.size+1,2,none⟩=false:=by go_simp
 have p3:w1.cell? ⟨w.heap.size+1,3,none⟩=some (.slice none 0 0):=by go_simp
 have g3:w1.frozen? ⟨w.heap.size+1,3,none⟩=false:=by go_simp
 have p4:w1.cell? ⟨w.heap.size+1,4,none⟩=some (.int .i64 0):=by go_simp
 have g4:w1.frozen? ⟨w.heap.size+1,4,none⟩=false:=by go_simp
 have hn1:∀ad,A'=some ad→w.heap.size+1<ad.block:=fun ad h=>by have:=hnew ad h;simp at this;omega
 have hn0:∀ad,A'=some ad→w.heap.size<ad.block:=fun ad h=>by have:=hn1 ad h;omega
 clear hc hf hg hnew
 go_wp2
 refine bodyPost_ret (v:= .agg #[.string s.name, .int .i64 s.start, .int .i64 s.step, .slice A' s.vals.length c', .int .i64 s.cons]) (by simp[results,Tryz.results28,go_sem, *]) rfl ⟨A',c',rfl,?_,?_,?_⟩
 ·
  exact (Rv.set (Rv.set (Rv.set (Rv.set (Rv.set (Rv.set hrv _ _ hn0) _ _ hn1) _ _ hn1) _ _ hn1) _ _ hn1) _ _ hn1)
 ·
  exact (Gr.setCell (Gr.setCell (Gr.setCell (Gr.setCell (Gr.setCell (Gr.setCell hgw (Nat.le_refl _) _) (Nat.le_succ _) _) (Nat.le_succ _) _) (Nat.le_succ _) _) (Nat.le_succ _) _) (Nat.le_succ _) _)
 ·
  exact fun ad h=>Nat.le_of_lt (hn0 ad h)
theorem rown_any (s:Sr) (A:Option Addr) (c:Nat) (w:World) (hl:s.vals.length≤1000000) (hr:Rv w A s.vals) :
  Calls Tryz.prog 10 #[.agg #[.string s.name, .int .i64 s.start, .int .i64 s.step, .slice A s.vals.length c, .int .i64 s.cons]] w (RetS s w):=by
 obtain ⟨i0,hi,hz0,hz1,hz2⟩:=info_parts info_val
 have hown0:=own_at (w.heap.size+1+1) ((w.alloc (.cells #[.string s.name, .int .i64 s.start, .int .i64 s.step, .slice A s.vals.length c, .int .i64 s.cons] 34)).alloc (.cells #[.string ⟨#[]⟩, .int .i64 0, .int .i64 0, .slice none 0 0, .int .i64 0] 34)) (by simp) 25 2
 have hr0:=hr.gr (Gr.alloc (Gr.alloc (Gr.alloc (Gr.refl w) (.cells #[.string s.name, .int .i64 s.start, .int .i64 s.step, .slice A s.vals.length c, .int .i64 s.cons] 34)) (.cells #[.string ⟨#[]⟩, .int .i64 0, .int .i64 0, .slice none 0 0, .int .i64 0] 34)) (.cells #[] 25))
 have hg0:=Gr.alloc (Gr.alloc (Gr.alloc (Gr.refl w) (.cells #[.string s.name, .int .i64 s.start, .int .i64 s.step, .slice A s.vals.length c, .int .i64 s.cons] 34)) (.cells #[.string ⟨#[]⟩, .int .i64 0, .int .i64 0, .slice none 0 0, .int .i64 0] 34)) (.cells #[] 25)
 have hg1:=Gr.alloc (Gr.refl ((w.alloc (.cells #[.string s.name, .int .i64 s.start, .int .i64 s.step, .slice A s.vals.length c, .int .i64 s.cons] 34)).alloc (.cells #[.string ⟨#[]⟩, .int .i64 0, .int .i64 0, .slice none 0 0, .int .i64 0] 34))) (.cells #[] 25)
 go_enter Tryz.func10,Tryz.ntmps10
 go_wp2_with
  (
   at_builtin
   refine wpList_append_rd rfl (.tmp 3) (.tmp 5) 32 rfl (w.heap.size+1+1) 25 i0 _ 2 16 Tryz.underlying32 hi hz0 hz1 hz2 rfl (by decide) _ _ _ rfl hown0 A s.vals.length c (vcells s.vals) rfl hr0 (vcells_one _) (by unfold maxLen;omega) (by omega) (by simp) ?_
   intro v' w1 hown2 hgr2 hat2
   have hgw:Gr w w1:=Gr.grown hg0 hgr2 (fun k hk=>by have h:some (w.heap.size+1+1)=some k:=hk;injection h with h;omega)
   have hgB:=Gr.grown hg1 hgr2 (fun k hk=>by have h:some (w.heap.size+1+1)=some k:=hk;injection h with h;simp;omega)
   rw[Nat.zero_add,List.nil_append] at hown2
   obtain ⟨A',c',hv⟩:=own_form hown2
   subst hv
   have hrv:=Rd.own hown2
   have hn1:∀ad,A'=some ad→w.heap.size+1<ad.block:=fun ad h=>by have:=own_new hown2 ad h;omega
   have hn0:∀ad,A'=some ad→w.heap.size<ad.block:=fun ad h=>by have:=hn1 ad h;omega
   obtain ⟨hc,hf⟩:=hgB.cells
   have z1:=hgB.size
   simp at z1
   have z0:w.heap.size<w1.heap.size:=by omega
   have z2:w.heap.size+1<w1.heap.size:=by omega
   have q0:w1.cell? ⟨w.heap.size,0,none⟩=some (.string s.name):=by go_simp
   have f0:w1.frozen? ⟨w.heap.size,0,none⟩=false:=by go_simp
   have q1:w1.cell? ⟨w.heap.size,1,none⟩=some (.int .i64 s.start):=by go_simp
   have f1:w1.frozen? ⟨w.heap.size,1,none⟩=false:=by go_simp
   have q2:w1.cell? ⟨w.heap.size,2,none⟩=some (.int .i64 s.step):=by go_simp
   have f2:w1.frozen? ⟨w.heap.size,2,none⟩=false:=by go_simp
   have q3:w1.cell? ⟨w.heap.size,3,none⟩=some (.slice A s.vals.length c):=by go_simp
   have f3:w1.frozen? ⟨w.heap.size,3,none⟩=false:=by go_simp
   have q4:w1.cell? ⟨w.heap.size,4,none⟩=some (.int .i64 s.cons):=by go_simp
   have f4:w1.frozen? ⟨w.heap.size,4,none⟩=false:=by go_simp
   have p0:w1.cell? ⟨w.heap.size+1,0,none⟩=some (.string ⟨#[]⟩):=by go_simp
   have g0:w1.frozen? ⟨w.heap.size+1,0,none⟩=false:=by go_simp
   have p1:w1.cell? ⟨w.heap.size+1,1,none⟩=some (.int .i64 0):=by go_simp
   have g1:w1.frozen? ⟨w.heap.size+1,1,none⟩=false:=by go_simp
   have p2:w1.cell? ⟨w.heap.size+1,2,none⟩=some (.int .i64 0):=by go_simp
   have g2:w1.frozen? ⟨w.heap.size+1,2,none⟩=false:=by go_simp
   have p3:w1.cell? ⟨w.heap.size+1,3,none⟩=some (.slice none 0 0):=by go_simp
   have g3:w1.frozen? ⟨w.heap.size+1,3,none⟩=false:=by go_simp
   have p4:w1.cell? ⟨w.heap.size+1,4,none⟩=some (.int .i64 0):=by go_simp
   have g4:w1.frozen? ⟨w.heap.size+1,4,none⟩=false:=by go_simp
   clear hc hf hgB hg0 hg1 hgr2 hat2 hown2 hown0 hr0)
 refine bodyPost_ret (v:= .agg #[.string s.name, .int .i64 s.start, .int .i64 s.step, .slice A' s.vals.length c', .int .i64 s.cons]) (by simp[results,Tryz.results10,go_sem, *]) rfl ⟨A',c',rfl,?_,?_,?_⟩
 ·
  exact (Rv.set (Rv.set (Rv.set (Rv.set (Rv.set (Rv.set hrv _ _ hn0) _ _ hn1) _ _ hn1) _ _ hn1) _ _ hn1) _ _ hn1)
 ·
  exact (Gr.setCell (Gr.setCell (Gr.setCell (Gr.setCell (Gr.setCell (Gr.setCell hgw (Nat.le_refl _) _) (Nat.le_succ _) _) (Nat.le_succ _) _) (Nat.le_succ _) _) (Nat.le_succ _) _) (Nat.le_succ _) _)
 ·
  exact fun ad h=>Nat.le_of_lt (hn0 ad h)
def FB (s:Sr) (A:Option Addr) (c:Nat) (B0:Nat) (W:World):Prop:=
 W.cell? ⟨B0,0,none⟩=some (.string s.name)∧W.cell? ⟨B0,1,none⟩=some (.int .i64 s.start)∧W.cell? ⟨B0,2,none⟩=some (.int .i64 s.step)∧W.cell? ⟨B0,3,none⟩=some (.slice A s.vals.length c)∧W.cell? ⟨B0,4,none⟩=some (.int .i64 s.cons)∧W.cell? ⟨B0+1,0,none⟩=some (.string ⟨#[]⟩)∧W.cell? ⟨B0+1,1,none⟩=some (.int .i64 0)∧W.cell? ⟨B0+1,2,none⟩=some (.int .i64 0)∧W.cell? ⟨B0+1,3,none⟩=some (.slice none 0 0)∧W.cell? ⟨B0+1,4,none⟩=some (.int .i64 0)∧W.frozen? ⟨B0+1,0,none⟩=false∧W.frozen? ⟨B0+1,1,none⟩=false∧W.frozen? ⟨B0+1,2,none⟩=false∧W.frozen? ⟨B0+1,3,none⟩=false∧W.frozen? ⟨B0+1,4,none⟩=false∧B0+1<W.heap.size
theorem FB.gr {s:Sr} {A:Option Addr} {c:Nat} {B0:Nat} {W W':World} (h:FB s A c B0 W) (g:Gr W W'):FB s A c B0 W':=by
 obtain ⟨q0,q1,q2,q3,q4,p0,p1,p2,p3,p4,g0,g1,g2,g3,g4,sz⟩:=h
 have h0:B0<W.heap.size:=by omega
 exact ⟨(g.cell (p:=⟨B0,0,none⟩) h0).trans q0,(g.cell (p:=⟨B0,1,none⟩) h0).trans q1,(g.cell (p:=⟨B0,2,none⟩) h0).trans q2,(g.cell (p:=⟨B0,3,none⟩) h0).trans q3,(g.cell (p:=⟨B0,4,none⟩) h0).trans q4,(g.cell (p:=⟨B0+1,0,none⟩) sz).trans p0,(g.cell (p:=⟨B0+1,1,none⟩) sz).trans p1,(g.cell (p:=⟨B0+1,2,none⟩) sz).trans p2,(g.cell (p:=⟨B0+1,3,none⟩) sz).trans p3,(g.cell (p:=⟨B0+1,4,none⟩) sz).trans p4,(g.frozen (p:=⟨B0+1,0,none⟩) sz).trans g0,(g.frozen (p:=⟨B0+1,1,none⟩) sz).trans g1,(g.frozen (p:=⟨B0+1,2,none⟩) sz).trans g2,(g.frozen (p:=⟨B0+1,3,none⟩) sz).trans g3,(g.frozen (p:=⟨B0+1,4,none⟩) sz).trans g4,Nat.lt_of_lt_of_le sz g.size⟩
theorem own_cap {w:World} {base:Nat} {e:TypeId} {size n c:Nat} {A:Option Addr} {xs:List Value} (h:w.ownsRow base e size (.slice A n c) n xs):n≤c:=by
 obtain ⟨_,⟨hv,h0⟩|⟨g,cap,cur,hv,_,_,hc,_⟩⟩:=h
 ·
  omega
 ·
  injection hv with _ _ h3;omega
def KC (B:Nat) (v:Value) (W:World):Prop:=W.cell? ⟨B,0,none⟩=some (.string ⟨#[97]⟩)∧W.cell? ⟨B,1,none⟩=some (.int .i64 0)∧W.cell? ⟨B,2,none⟩=some (.int .i64 10)∧W.cell? ⟨B,3,none⟩=some (v)∧W.cell? ⟨B,4,none⟩=some (.int .i64 0)∧W.frozen? ⟨B,3,none⟩=false∧B<W.heap.size
theorem KC.below {B:Nat} {v:Value} {W W':World} (h:KC B v W) (g:Below (B+1) W W'):KC B v W':=by
 obtain ⟨c0,c1,c2,c3,c4,f3,sz⟩:=h
 exact ⟨(g.cell (p:=⟨B,0,none⟩) (Nat.lt_succ_self B)).trans c0,(g.cell (p:=⟨B,1,none⟩) (Nat.lt_succ_self B)).trans c1,(g.cell (p:=⟨B,2,none⟩) (Nat.lt_succ_self B)).trans c2,(g.cell (p:=⟨B,3,none⟩) (Nat.lt_succ_self B)).trans c3,(g.cell (p:=⟨B,4,none⟩) (Nat.lt_succ_self B)).trans c4,(g.frozen (p:=⟨B,3,none⟩) (Nat.lt_succ_self B)).trans f3,Nat.lt_of_lt_of_le sz g.size⟩
theorem KC.set {B:Nat} {v:Value} {W:World} (h:KC B v W) (u:Value):KC B u (W.setCell ⟨B,3,none⟩ u):=by
 obtain ⟨c0,c1,c2,c3,c4,f3,sz⟩:=h
 refine ⟨?_,?_,?_,?_,?_,?_,?_⟩
 ·
  exact (World.cell?_setCell_other W ⟨B,3,none⟩ ⟨B,0,none⟩ _ (by simp)).trans c0
 ·
  exact (World.cell?_setCell_other W ⟨B,3,none⟩ ⟨B,1,none⟩ _ (by simp)).trans c1
 ·
  exact (World.cell?_setCell_other W ⟨B,3,none⟩ ⟨B,2,none⟩ _ (by simp)).trans c2
 ·
  go_simp
 ·
  exact (World.cell?_setCell_other W ⟨B,3,none⟩ ⟨B,4,none⟩ _ (by simp)).trans c4
 ·
  exact (by simp:(W.setCell ⟨B,3,none⟩ u).frozen? ⟨B,3,none⟩=W.frozen? ⟨B,3,none⟩).trans f3
 ·
  simpa using sz
def VAt (w:World) (B:Nat) (v:Vl):Prop:=w.cell? ⟨B,0,none⟩=some (.bool v.ok)∧w.cell? ⟨B,1,none⟩=some (.int .i64 v.n)∧B<w.heap.size
theorem VAt.gr {w w':World} {B:Nat} {v:Vl} (h:VAt w B v) (g:Gr w w'):VAt w' B v:=
 ⟨(g.cell (p:=⟨B,0,none⟩) h.2.2).trans h.1,(g.cell (p:=⟨B,1,none⟩) h.2.2).trans h.2.1,Nat.lt_of_lt_of_le h.2.2 g.size⟩
def FAt (w:World) (B:Nat) (r:Fr):Prop:=w.cell? ⟨B,0,none⟩=some (.string r.nm)∧w.cell? ⟨B,1,none⟩=some (.int .i64 r.kind)∧w.cell? ⟨B,2,none⟩=some (.int .i64 r.by_)∧w.cell? ⟨B,3,none⟩=some (.bool r.least)∧B<w.heap.size
theorem FAt.gr {w w':World} {B:Nat} {r:Fr} (h:FAt w B r) (g:Gr w w'):FAt w' B r:=
 ⟨(g.cell (p:=⟨B,0,none⟩) h.2.2.2.2).trans h.1,(g.cell (p:=⟨B,1,none⟩) h.2.2.2.2).trans h.2.1,(g.cell (p:=⟨B,2,none⟩) h.2.2.2.2).trans h.2.2.1,(g.cell (p:=⟨B,3,none⟩) h.2.2.2.2).trans h.2.2.2.1,Nat.lt_of_lt_of_le h.2.2.2.2 g.size⟩
section
open Go.RowKit Go.Sort
theorem posR_take {α:Type} (lt:α→α→Bool) (x:α) (A B:List α):∀k,k≤A.length→posR lt x (A++B) k=posR lt x A k
 | 0,_=>rfl
 | k+1,h=>by
  unfold posR
  rw[List.getElem?_append_left (by omega)]
  cases A[k]? with
  | none=>rfl
  | some y=>simp only;rw[posR_take lt x A B k (by omega)]
section
variable {α:Type} [Inhabited α]
theorem arr_at {d:Array α} {A B:List α} {x:α} (h:d.toList=A++x::B):d[A.length]! = x:=by
 have:d[A.length]?=some x:=by
  rw[←Array.getElem?_toList,h,List.getElem?_append_right (Nat.le_refl _)];simp
 rw[getElem!_def,this]
theorem arr_swp {d:Array α} {A B:List α} {x y:α} (h:d.toList=A++y::x::B):(swp d (A.length+1) A.length).toList=A++x::y::B:=by
 have h0:d[A.length]! = y:=arr_at h
 have h1:d[A.length+1]! = x:=by
  have:=arr_at (d:=d) (A:=A++[y]) (B:=B) (x:=x) (by rw[h];simp)
  simpa using this
 unfold swp
 rw[h0,h1,Array.toList_setIfInBounds,Array.toList_setIfInBounds,h]
 simp[List.set_append]
theorem insInner_eq (lt:α→α→Bool) (x:α):∀(j:Nat) (A B:List α) (d:Array α),A.length=j→d.toList=A++x::B→
  (insInner lt 0 j d).toList=A.take (posR lt x A j)++x::(A.drop (posR lt x A j)++B)
 | 0,A,B,d,hA,hd=>by
  have:A=[]:=List.eq_nil_of_length_eq_zero hA
  subst this
  simpa [insInner,posR] using hd
 | j+1,A,B,d,hA,hd=>by
  rcases List.eq_nil_or_concat A with rfl|⟨A',y,rfl⟩
  ·
   simp at hA
  ·
   rw[List.concat_eq_append] at hA hd ⊢
   have hA':A'.length=j:=by simpa using hA
   have hd':d.toList=A'++y::x::B:=by rw[hd];simp
   have e0:d[j]! = y:=by rw[←hA'];exact arr_at hd'
   have e1:d[j+1]! = x:=by
    have:=arr_at (d:=d) (A:=A'++[y]) (B:=B) (x:=x) hd
    rw[←hA'];simpa using this
   have ey:(A'++[y])[j]?=some y:=by rw[←hA'];simp
   unfold insInner posR
   rw[e0,e1,ey]
   simp only[Nat.succ_pos,Nat.zero_lt_succ,decide_true,Bool.true_and,gt_iff_lt]
   cases hlt:lt x y
   ·
    simp only[Bool.false_eq_true,if_false,cond_false]
    have hl:j+1=(A'++[y]).length:=by simpa using hA.symm
    rw[hd,hl,List.take_length,List.drop_length]
    simp
   ·
    simp only[if_true,cond_true]
    have hs:=arr_swp hd'
    rw[hA'] at hs
    rw[insInner_eq lt x j A' (y::B) _ hA' hs,posR_take lt x A' [y] j (by omega)]
    have hp:=posR_le lt x A' j
    rw[List.take_append_of_le_length (by omega),List.drop_append_of_le_length (by omega)]
    simp
theorem insOuter_eq (lt:α→α→Bool):∀(m i:Nat) (A B:List α) (d:Array α),A.length=i→B.length=m→d.toList=A++B→
  (insOuter lt 0 (i+m) i d).toList=B.foldl (insR lt) A
 | 0,i,A,B,d,hA,hB,hd=>by
  have:B=[]:=List.eq_nil_of_length_eq_zero hB
  subst this
  unfold insOuter
  rw[if_neg (by omega)]
  simpa using hd
 | m+1,i,A,B,d,hA,hB,hd=>by
  match B,hB with
  | x::B,hB=>
   have hB':B.length=m:=by simpa using hB
   unfold insOuter
   rw[if_pos (by omega)]
   have h1:=insInner_eq lt x i A B d hA hd
   have h2:(insInner lt 0 i d).toList=insR lt A x++B:=by
    rw[h1];unfold insR;rw[hA];simp
   have e:i+(m+1)=(i+1)+m:=by omega
   rw[e,insOuter_eq lt m (i+1) (insR lt A x) B _ (by rw[insR_len,hA]) hB' h2]
   rfl
theorem ins_sort (lt:α→α→Bool) (d:Array α):(insertionSort lt d 0 d.size).toList=sortR lt d.toList:=by
 unfold insertionSort sortR
 match h:d.toList with
 | []=>
  have hs:d.size=0:=by rw[←Array.length_toList,h];rfl
  unfold insOuter
  rw[hs,if_neg (by omega),h]
  rfl
 | x::B=>
  have hs:d.size=(0+1)+B.length:=by rw[←Array.length_toList,h];simp;omega
  rw[hs,insOuter_eq lt B.length (0+1) [x] B d rfl rfl h]
  rfl
theorem ins_none (lt:α→α→Bool) (d:Array α) (n:Nat):insertionSort lt d n n=d:=by
 unfold insertionSort insOuter
 rw[if_neg (by omega)]
end
end
structure GX (R:Nat) (w w':World):Prop where
 os:w'.os=w.os
 tape:w'.tape=w.tape
 output:w'.output=w.output
 size:w.heap.size≤w'.heap.size
 block:∀k,k<w.heap.size→k≠R→w'.heap[k]?=w.heap[k]?
theorem GX.refl (R:Nat) (w:World):GX R w w:=⟨rfl,rfl,rfl,Nat.le_refl _,fun _ _ _=>rfl⟩
theorem GX.trans {R:Nat} {a b c:World} (h:GX R a b) (k:GX R b c):GX R a c:=
 ⟨k.os.trans h.os,k.tape.trans h.tape,k.output.trans h.output,Nat.le_trans h.size k.size,fun i hi hn=>(k.block i (Nat.lt_of_lt_of_le hi h.size) hn).trans (h.block i hi hn)⟩
theorem GX.of_gr {R:Nat} {w w':World} (h:Gr w w'):GX R w w':=⟨h.os,h.tape,h.output,h.size,fun k hk _=>Below.block h k hk⟩
theorem GX.alloc {R:Nat} {a w:World} (h:GX R a w) (o:Obj):GX R a (w.alloc o):=h.trans (GX.of_gr (Gr.alloc (Gr.refl w) o))
theorem GX.drew {R:Nat} {a w:World} (h:GX R a w):GX R a w.drew:=h.trans (GX.of_gr (Gr.drew (Gr.refl w)))
theorem GX.drewN {R:Nat} {a w:World} (h:GX R a w) (n:Nat):GX R a (w.drewN n):=⟨h.os,h.tape,h.output,h.size,h.block⟩
theorem GX.setCell {R:Nat} {a w:World} (h:GX R a w) {p:Addr} (hp:p.block=R∨a.heap.size≤p.block) (u:Value):GX R a (w.setCell p u):=
 ⟨h.os,h.tape,h.output,Nat.le_trans h.size (by simp[World.setCell]),fun k hk hn=>(Below.heap_setCell _ _ _ _ (by omega)).trans (h.block k hk hn)⟩
theorem GX.gr {R:Nat} {a w w':World} (h:Gr a w) (g:GX R w w') (hR:a.heap.size≤R):Gr a w':=
 ⟨g.os.trans h.os,g.tape.trans h.tape,g.output.trans h.output,Nat.le_trans h.size g.size,fun k hk=>(g.block k (Nat.lt_of_lt_of_le hk h.size) (by omega)).trans (h.block k hk)⟩
theorem GX.cell {R:Nat} {w w':World} (h:GX R w w') {p:Addr} (hp:p.block<w.heap.size) (hn:p.block≠R):w'.cell? p=w.cell? p:=World.cell?_of_block (h.block _ hp hn)
theorem GX.frozen {R:Nat} {w w':World} (h:GX R w w') {p:Addr} (hp:p.block<w.heap.size) (hn:p.block≠R):w'.frozen? p=w.frozen? p:=World.frozen?_of_block (h.block _ hp hn)
theorem GX.cells {R:Nat} {W w1:World} (hb:GX R W w1):(∀b o,b<W.heap.size→b≠R→w1.cell? ⟨b,o,none⟩=W.cell? ⟨b,o,none⟩)∧(∀b o,b<W.heap.size→b≠R→w1.frozen? ⟨b,o,none⟩=W.frozen? ⟨b,o,none⟩):=
 ⟨fun b o h hn=>hb.cell (p:=⟨b,o,none⟩) h hn,fun b o h hn=>hb.frozen (p:=⟨b,o,none⟩) h hn⟩
section
open Go.RowKit Go.Sort Go.Shelf
theorem cmpI_eq (a b:Int):cmpI a b=Lib.compareInt a b:=rfl
instance:Inhabited Sq:=⟨⟨⟨⟨#[]⟩,0,0,[],0⟩,none,0⟩⟩
instance:Inhabited Vl:=⟨⟨false,0⟩⟩
abbrev En:=Sq×Vl
def enC (x:En):List Value:=[.string x.1.s.name, .int .i64 x.1.s.start, .int .i64 x.1.s.step, .slice x.1.A x.1.s.vals.length x.1.c, .int .i64 x.1.s.cons, .bool x.2.ok, .int .i64 x.2.n]
def cfE (least:Bool) (x y:En):Int:=cmpV least x.2 y.2
theorem cfE_lt (least:Bool) (x y:En):ltOf (cfE least) x y=ltV least x.2 y.2:=cmpV_lt least x.2 y.2
theorem cmpe_any (B:Nat) (least:Bool) (x y:En) (W:World) (hB:W.cell? ⟨B,3,none⟩=some (.bool least)) (hlt:B<W.heap.size):Calls Tryz.prog 89 #[.agg (enC x).toArray, .agg (enC y).toArray, .pointer (some ⟨B,0,none⟩)] W fun e w'=>e= .returned (.int .i64 (cfE least x y))∧∃q os',w'=grow (W.drewN q) os':=by
 have hcon:=fun a b W'=>Tryz.cmp_Compare_int a b W'
 change ∀a b W',Calls Tryz.prog 90 _ _ _ at hcon
 obtain ⟨sx,⟨xo,xn⟩⟩:=x
 obtain ⟨sy,⟨yo,yn⟩⟩:=y
 unfold enC cfE
 simp only
 cases xo<;>cases yo<;>cases least
 all_goals
  simp only[cmpV,cond_true,cond_false,cmpI_eq]
 case true.true.true=>
  have hc:=hcon xn yn
  generalize Lib.compareInt xn yn=r at hc ⊢
  clear hcon
  go_enter Tryz.func89,Tryz.ntmps89
  go_wp2_with (go_at_call 90;refine (hc _).mono ?_;rintro e w' ⟨rfl,rfl⟩)
  go_ret
  exact ⟨rfl,0,_,by rw[alloc_eq_grow,alloc_eq_grow,grow_grow];rfl⟩
 case true.true.false=>
  have hc:=hcon yn xn
  generalize Lib.compareInt yn xn=r at hc ⊢
  clear hcon
  go_enter Tryz.func89,Tryz.ntmps89
  go_wp2_with (go_at_call 90;refine (hc _).mono ?_;rintro e w' ⟨rfl,rfl⟩)
  go_ret
  exact ⟨rfl,0,_,by rw[alloc_eq_grow,alloc_eq_grow,grow_grow];rfl⟩
 all_goals
  clear hcon
  go_enter Tryz.func89,Tryz.ntmps89
  go_wp2
  go_ret
  exact ⟨rfl,0,_,by rw[alloc_eq_grow,alloc_eq_grow,grow_grow];rfl⟩
def renE:Ren:=⟨fun|20=>131|n=>n,fun|0=>0|3=>3|4=>4|22=>133|24=>135|25=>138|n=>n,fun|n=>n⟩
theorem laysE:SlLaysF0.n20 Tryz.prog renE:={
 mixed:=by kernel_rfl
 f20:=⟨Tryz.f131.name, rfl, Tryz.func131.trans (congrArg some (by kernel_rfl))⟩
 t0:=Tryz.underlying0
 a0:=Tryz.isAgg0
 z0:=Tryz.sizeOf0
 v0:=Tryz.zeroValue0
 t3:=Tryz.underlying3
 a3:=Tryz.isAgg3
 z3:=Tryz.sizeOf3
 v3:=Tryz.zeroValue3
 t4:=Tryz.underlying4
 a4:=Tryz.isAgg4
 z4:=Tryz.sizeOf4
 v4:=Tryz.zeroValue4
 t22:=Tryz.underlying133
 a22:=Tryz.isAgg133
 z22:=Tryz.sizeOf133
 v22:=Tryz.zeroValue133
 t25:=Tryz.underlying138
 a25:=Tryz.isAgg138
 z25:=Tryz.sizeOf138
 v25:=Tryz.zeroValue138}
theorem flat_at {α:Type} (enc:α→List Value) (k:Nat) (hk:∀x,(enc x).length=k) (hk0:0<k):∀(L:List α) (i:Nat) (h:i<L.length),∀j,j<k→(L.flatMap enc)[i*k+j]?=(enc L[i])[j]?
 | [],i,h,j,hj=>by simp at h
 | x::L,0,h,j,hj=>by
  rw[List.flatMap_cons,Nat.zero_mul,Nat.zero_add,List.getElem?_append_left (by rw[hk];exact hj)];rfl
 | x::L,i+1,h,j,hj=>by
  rw[List.flatMap_cons,List.getElem?_append_right (by rw[hk,Nat.add_mul];omega),hk,show (i+1)*k+j-k=i*k+j by rw[Nat.add_mul];omega,flat_at enc k hk hk0 L i (by simpa using h) j hj];rfl
theorem flat_len {α:Type} (enc:α→List Value) (k:Nat) (hk:∀x,(enc x).length=k) (L:List α):(L.flatMap enc).length=L.length*k:=by
 induction L with
 | nil=>simp
 | cons x L ih=>rw[List.flatMap_cons,List.length_append,ih,hk,List.length_cons,Nat.add_mul];omega
section
variable {α:Type} [Inhabited α] (enc:α→List Value) (k:Nat)
theorem gx_sort (w:World) (blk off m:Nat) (dk:Array α) (os:Array Obj):GX blk w (sortWorldK enc k w blk off m dk os):=by
 refine ⟨rfl,rfl,rfl,size_sortWorldK_c enc k w blk off m dk os,fun i hi hn=>?_⟩
 have e:(sortWorldK enc k w blk off m dk os).heap=(putRowK enc k (Sort.ahead w m) blk off dk).heap++os:=rfl
 have hs:i<(putRowK enc k (Sort.ahead w m) blk off dk).heap.size:=by rw[size_putRowK];exact hi
 rw[e,Array.getElem?_append_left hs]
 show (Array.modify w.heap blk _)[i]?=_
 rw[Array.getElem?_modify,if_neg (fun h=>hn h.symm)]
theorem flat_any (hk:∀x,(enc x).length=k) (hk0:0<k) (d:Array α) (t:Nat) (h:t<d.size*k):(d.toList.flatMap enc)[t]?=some (flatK enc k d)[t]! := by
 have hd:t/k<d.size:=(Nat.div_lt_iff_lt_mul hk0).2 h
 have hm:t%k<k:=Nat.mod_lt _ hk0
 have e:=flat_at enc k hk hk0 d.toList (t/k) (by simpa using hd) (t%k) hm
 rw[Nat.div_add_mod'] at e
 rw[e,get_flatK enc k d t h]
 have hx:d[t/k]! = d[t/k]:=getElem!_pos d (t/k) hd
 rw[hx,Array.getElem_toList]
 have hl:t%k<(enc d[t/k]).length:=by rw[hk];exact hm
 rw[List.getElem?_eq_getElem hl,getElem!_pos (enc d[t/k]) (t%k) hl]
theorem add_zero_at (g j:Nat):(⟨g,0,none⟩:Addr).add j=⟨g,0+j,none⟩:=by
 unfold Addr.add;split
 ·
  rename_i h;subst h;rfl
 ·
  rfl
theorem holds_own (hk:∀x,(enc x).length=k) (hk0:0<k) {w:World} {base g n c:Nat} {e:TypeId} {d:Array α} (h:w.ownsRow base e k (.slice (some ⟨g,0,none⟩) n c) n (d.toList.flatMap enc)) (hn:d.size=n):HoldsK enc k w g 0 d∧(0<n→g<w.heap.size∧base≤g):=by
 refine ⟨fun j hj=>?_,fun h0=>?_⟩
 ·
  rw[size_flatK] at hj
  have hx:=flat_any enc k hk hk0 d j hj
  obtain ⟨_,⟨hv,_⟩|⟨g',cap,cur,hv,_,hh,_⟩⟩:=id h
  ·
   cases hv
  ·
   injection hv with h1
   injection h1 with h1
   injection h1 with h1
   subst h1
   refine ⟨?_,frozen_of_row w g (0+j) _ _ hh⟩
   have hc:=h.cells (g:=g) rfl j _ hx
   rw[add_zero_at] at hc
   exact hc
 ·
  obtain ⟨_,⟨hv,h1⟩|⟨g',cap,cur,hv,hb,hh,_⟩⟩:=h
  ·
   cases hv
  ·
   injection hv with h1
   injection h1 with h1
   injection h1 with h1
   subst h1
   exact ⟨(Array.getElem?_eq_some_iff.1 hh).1,hb⟩
theorem rd_holds (hk:∀x,(enc x).length=k) (hk0:0<k) {w:World} {g n:Nat} {d:Array α} (h:HoldsK enc k w g 0 d) (hg:g<w.heap.size) (hn:d.size=n):Rd w k (some ⟨g,0,none⟩) n (d.toList.flatMap enc):=by
 refine ⟨by rw[flat_len enc k hk,←hn];simp,fun _=>⟨_,rfl,hg,fun j u hu=>?_⟩⟩
 have hj:j<d.size*k:=by
  have:=(List.getElem?_eq_some_iff.1 hu).1
  rw[flat_len enc k hk] at this
  simpa using this
 have hx:=flat_any enc k hk hk0 d j hj
 rw[hx] at hu
 injection hu with hu
 rw[add_zero_at,←hu]
 exact (h j (by rw[size_flatK];exact hj)).1
end
theorem enC_len (x:En):(enC x).length=7:=rfl
theorem enC_one (x:En):∀v∈enC x,v.oneCell'=true:=by
 intro v hv
 simp[enC] at hv
 rcases hv with rfl|rfl|rfl|rfl|rfl|rfl|rfl<;>rfl
theorem ins_size {α:Type} [Inhabited α] (lt:α→α→Bool) (d:Array α):(insertionSort lt d 0 d.size).size=d.size:=by
 rw[←Array.length_toList,ins_sort,sortR_len,Array.length_toList]
theorem inse_any (B:Nat) (least:Bool) (blk cap a b:Nat) (d:Array En) (w:World) (hB:w.cell? ⟨B,3,none⟩=some (.bool least)) (hlt:B<w.heap.size) (hne:B≠blk) (hH:HoldsK enC 7 w blk 0 d) (hblk:blk<w.heap.size) (hab:a≤b) (hb:b≤d.size) (hsz:d.size≤1000) :
  Calls Tryz.prog 131 #[.slice (some ⟨blk,0,none⟩) d.size cap, .int .i64 a, .int .i64 b, .func (.func 89) #[] #[.pointer (some ⟨B,0,none⟩)]] w fun e w'=>
   e= .returned (.tuple #[])∧GX blk w w'∧((insertionSort (ltOf (cfE least)) d a b).size=d.size→HoldsK enC 7 w' blk 0 (insertionSort (ltOf (cfE least)) d a b)):=by
 have h:=AnyQ.insertionSortCmpFunc laysE 7 Tryz.isAgg135 Tryz.sizeOf135 enC enC_len enC_one (cfE least) 89 #[.pointer (some ⟨B,0,none⟩)] blk 0 cap a b d w (enters_of Tryz.func89 (by kernel_rfl) rfl)
  (fun m os dk _ x y=>by
   have hx:=gx_sort enC 7 w blk 0 m dk os
   exact cmpe_any B least x y _ ((hx.cell (p:=⟨B,3,none⟩) hlt hne).trans hB) (Nat.lt_of_lt_of_le hlt hx.size)) hH hblk hab hb (by omega)
 refine h.mono fun e w' ⟨he,n,os,hw⟩=>⟨he,?_,fun hs=>?_⟩
 ·
  rw[hw];exact gx_sort ..
 ·
  rw[hw];exact holdsK_sortWorldK_c enC 7 w blk 0 d _ n os hH hblk hs
end
section
open Go.RowKit Go.Sort Go.Shelf
theorem insze_any (A:Option Addr) (c:Nat) (f:Value) (w:World) :
  Calls Tryz.prog 131 #[.slice A 0 c, .int .i64 0, .int .i64 0,f] w fun e w'=>e= .returned (.tuple #[])∧w=w':=by
 go_enter Tryz.func131,Tryz.ntmps131
 go_wp2
 go_loopw [8] (fun i wr=>i= .int .i64 1∧wr=w) (fun _ _=>0)
 case atStart=>exact ⟨rfl,rfl⟩
 case round=>
  obtain ⟨rfl,rfl⟩:=hrel
  go_wp2
  go_end0
  exact ⟨rfl,rfl⟩
theorem stabze_any (A:Option Addr) (c:Nat) (f:Value) (w:World) :
  Calls Tryz.prog 115 #[.slice A 0 c, .int .i64 0,f] w fun e w'=>e= .returned (.tuple #[])∧w=w':=by
 go_enter Tryz.func115,Tryz.ntmps115
 go_wp2
 go_loopw [7,8] (fun a b wr=>a= .int .i64 0∧b= .int .i64 20∧wr=w) (fun _ _ _=>0)
 case atStart=>exact ⟨rfl,rfl,rfl⟩
 case round=>
  obtain ⟨rfl,rfl,rfl⟩:=hrel
  go_wp2_with fail
  refine (insze_any A c f _).mono ?_;rintro e w1 ⟨rfl,rfl⟩
  go_wp2
  go_loopw [6] (fun a wr2=>a= .int .i64 20∧wr2=wr) (fun _ _=>0)
  case atStart=>exact ⟨rfl,rfl⟩
  case round=>
   obtain ⟨rfl,rfl⟩:=hrel
   go_wp2
   go_end0
   exact ⟨rfl,rfl⟩
theorem stabe_any (B:Nat) (least:Bool) (blk cap:Nat) (d:Array En) (w:World) (hB:w.cell? ⟨B,3,none⟩=some (.bool least)) (hlt:B<w.heap.size) (hne:B≠blk) (hH:HoldsK enC 7 w blk 0 d) (hblk:blk<w.heap.size) (h20:d.size≤20) :
  Calls Tryz.prog 115 #[.slice (some ⟨blk,0,none⟩) d.size cap, .int .i64 d.size, .func (.func 89) #[] #[.pointer (some ⟨B,0,none⟩)]] w fun e w'=>
   e= .returned (.tuple #[])∧GX blk w w'∧HoldsK enC 7 w' blk 0 (insertionSort (ltOf (cfE least)) d 0 d.size):=by
 have hs:=ins_size (ltOf (cfE least)) d
 by_cases hn:d.size=20
 ·
  have h1:(20:Int)≤(d.size:Int):=by omega
  have h2:¬(40:Int)≤(d.size:Int):=by omega
  have h3:¬(20:Int)<(d.size:Int):=by omega
  have Q0:Calls Tryz.prog 131 #[.slice (some ⟨blk,0,none⟩) d.size cap, .int .i64 0, .int .i64 20, .func (.func 89) #[] #[.pointer (some ⟨B,0,none⟩)]] w fun e w'=>
   e= .returned (.tuple #[])∧GX blk w w'∧HoldsK enC 7 w' blk 0 (insertionSort (ltOf (cfE least)) d 0 d.size):=by
   have h:=inse_any B least blk cap 0 d.size d w hB hlt hne hH hblk (Nat.zero_le _) (Nat.le_refl _) (by omega)
   have e20:(d.size:Int)=20:=by omega
   have h':Calls Tryz.prog 131 #[.slice (some ⟨blk,0,none⟩) d.size cap, .int .i64 0, .int .i64 (d.size:Int), .func (.func 89) #[] #[.pointer (some ⟨B,0,none⟩)]] w _:=h
   rw[e20] at h'
   exact h'.mono fun e w' ⟨he,hg,hh⟩=>⟨he,hg,hh hs⟩
  obtain ⟨D,hD⟩:∃D,insertionSort (ltOf (cfE least)) d 0 d.size=D:=⟨_,rfl⟩
  rw[hD] at Q0 hs ⊢
  have Q2:Hid (∀wr,GX blk w wr→HoldsK enC 7 wr blk 0 D→Calls Tryz.prog 131 #[.slice (some ⟨blk,0,none⟩) d.size cap, .int .i64 20, .int .i64 (d.size:Int), .func (.func 89) #[] #[.pointer (some ⟨B,0,none⟩)]] wr fun e w'=>
   e= .returned (.tuple #[])∧GX blk wr w'∧HoldsK enC 7 w' blk 0 D):=Lib.hid (fun wr hgx hh=>by
   have h:=inse_any B least blk cap 20 D.size D wr ((hgx.cell (p:=⟨B,3,none⟩) hlt hne).trans hB) (Nat.lt_of_lt_of_le hlt hgx.size) hne hh (Nat.lt_of_lt_of_le hblk hgx.size) (by omega) (Nat.le_refl _) (by omega)
   have e20:D.size=20:=by omega
   rw[e20,ins_none,hn.symm] at h
   have e21:(20:Int)=(d.size:Int):=by omega
   rw[e21]
   exact h.mono fun e w' ⟨he,hg,hh⟩=>⟨he,hg,hh (by omega)⟩)
  have Q0:=Lib.hid Q0
  have HD:=Lib.hid hD
  clear hs hn hD
  go_enter Tryz.func115,Tryz.ntmps115
  go_wp2
  go_loopw [7,8] (fun a b wr=>(a= .int .i64 0∧b= .int .i64 20∧wr=w)∨(a= .int .i64 20∧b= .int .i64 40∧GX blk w wr∧HoldsK enC 7 wr blk 0 D)) (fun _ b _=>100-(intOf b).toNat)
  case atStart=>exact .inl ⟨rfl,rfl,rfl⟩
  case round=>
   rcases hrel with ⟨rfl,rfl,rfl⟩|⟨rfl,rfl,hgx,hh⟩
   ·
    go_wp2_with fail
    refine Q0.out.mono ?_;rintro e w1 ⟨rfl,hgx,hh⟩
    go_wp2
    go_roundw
    case rel=>exact .inr ⟨rfl,rfl,hgx,hh⟩
    case measure=>simp[intOf]
   ·
    go_wp2_with fail
    refine (Q2.out _ hgx hh).mono ?_;rintro e w1 ⟨rfl,hgx1,hh1⟩
    have hgx2:=hgx.trans hgx1
    go_wp2
    go_loopw [6] (fun a wr2=>a= .int .i64 20∧wr2=w1) (fun _ _=>0)
    case atStart=>exact ⟨rfl,rfl⟩
    case round=>
     obtain ⟨rfl,rfl⟩:=hrel
     go_wp2
     go_end0
     exact ⟨rfl,hgx2,hh1⟩
 ·
  have h1:¬(20:Int)≤(d.size:Int):=by omega
  have h3:¬(20:Int)<(d.size:Int):=by omega
  have Q0:Calls Tryz.prog 131 #[.slice (some ⟨blk,0,none⟩) d.size cap, .int .i64 0, .int .i64 (d.size:Int), .func (.func 89) #[] #[.pointer (some ⟨B,0,none⟩)]] w fun e w'=>
   e= .returned (.tuple #[])∧GX blk w w'∧HoldsK enC 7 w' blk 0 (insertionSort (ltOf (cfE least)) d 0 d.size):=by
   have h:=inse_any B least blk cap 0 d.size d w hB hlt hne hH hblk (Nat.zero_le _) (Nat.le_refl _) (by omega)
   exact h.mono fun e w' ⟨he,hg,hh⟩=>⟨he,hg,hh hs⟩
  generalize insertionSort (ltOf (cfE least)) d 0 d.size=D at Q0 hs ⊢
  have Q0:=Lib.hid Q0
  clear hs hn
  go_enter Tryz.func115,Tryz.ntmps115
  go_wp2
  go_loopw [7,8] (fun a b wr=>a= .int .i64 0∧b= .int .i64 20∧wr=w) (fun _ _ _=>0)
  case atStart=>exact ⟨rfl,rfl,rfl⟩
  case round=>
   obtain ⟨rfl,rfl,rfl⟩:=hrel
   go_wp2_with fail
   refine Q0.out.mono ?_;rintro e w1 ⟨rfl,hgx,hh⟩
   go_wp2
   go_loopw [6] (fun a wr2=>a= .int .i64 20∧wr2=w1) (fun _ _=>0)
   case atStart=>exact ⟨rfl,rfl⟩
   case round=>
    obtain ⟨rfl,rfl⟩:=hrel
    go_wp2
    go_end0
    exact ⟨rfl,hgx,hh⟩
theorem sorte_any (B:Nat) (least:Bool) (base c:Nat) (A:Option Addr) (L:List En) (wb w:World) (hB:wb.cell? ⟨B,3,none⟩=some (.bool least)) (hlt:B<wb.heap.size) (h20:L.length≤20) (hown:w.ownsRow base 135 7 (.slice A L.length c) L.length (L.flatMap enC)) (hg:Gr wb w) (hb:wb.heap.size≤base) :
  Calls Tryz.prog 88 #[.slice A L.length c, .func (.func 89) #[] #[.pointer (some ⟨B,0,none⟩)]] w fun e w'=>
   e= .returned (.tuple #[])∧Gr wb w'∧Rd w' 7 A L.length ((sortR (fun a b=>ltV least a.2 b.2) L).flatMap enC):=by
 rcases Nat.eq_zero_or_pos L.length with h0|h0
 ·
  have hL:L=[]:=List.eq_nil_of_length_eq_zero h0
  subst hL
  show Calls Tryz.prog 88 #[.slice A 0 c, .func (.func 89) #[] #[.pointer (some ⟨B,0,none⟩)]] w _
  clear hown h20 h0 hB hlt
  go_enter Tryz.func88,Tryz.ntmps88
  go_wp2_with fail
  refine (stabze_any A c _ _).mono ?_;rintro e w1 ⟨rfl,rfl⟩
  go_wp2
  go_end0
  exact ⟨rfl,hg,Rd.nil _ _ _⟩
 ·
  obtain ⟨g,hgA⟩:∃g,A=some ⟨g,0,none⟩:=by
   obtain ⟨_,⟨hv,h1⟩|⟨g',cap,cur,hv,_⟩⟩:=id hown
   ·
    omega
   ·
    injection hv with h1
    exact ⟨g',h1⟩
  subst hgA
  obtain ⟨hH,hgb⟩:=holds_own enC 7 enC_len (by decide) (d:=L.toArray) hown (by simp)
  obtain ⟨hblk,hbase⟩:=hgb h0
  have hs:=stabe_any B least g c L.toArray w ((hg.cell (p:=⟨B,3,none⟩) hlt).trans hB) (Nat.lt_of_lt_of_le hlt hg.size) (by omega) hH hblk (by simpa using h20)
  have hi:=ins_sort (ltOf (cfE least)) L.toArray
  have hz:=ins_size (ltOf (cfE least)) L.toArray
  have hlt:ltOf (cfE least)=(fun a b=>ltV least a.2 b.2):=by funext x y;exact cfE_lt least x y
  simp only[List.size_toArray] at hs hi hz
  rw[hlt] at hs hi hz
  have HI:=Lib.hid hi
  have HZ:=Lib.hid hz
  have HS:=Lib.hid hs
  clear hs hi hz hlt hown hH h20
  go_enter Tryz.func88,Tryz.ntmps88
  go_wp2_with fail
  refine HS.out.mono ?_;rintro e w1 ⟨rfl,hgx,hh⟩
  have hgr:=hgx.gr hg (by omega)
  have hrd:=rd_holds enC 7 enC_len (by decide) hh (Nat.lt_of_lt_of_le hblk hgx.size) HZ.out
  rw[HI.out] at hrd
  go_wp2
  go_end0
  exact ⟨rfl,hgr,hrd⟩
end
end Go.Proofs.YtnphdacibageiaaGreat
