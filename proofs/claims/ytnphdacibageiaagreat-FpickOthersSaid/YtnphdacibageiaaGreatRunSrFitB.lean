import Derived.Test.YtnphdacibageiaaGreatRunSrIs
import Derived.Test.YtnphdacibageiaaGreatRunFxMul
import Derived.BigQuiet
import Derived.Test.YtnphdacibageiaaGreatRunFpPlain
import Derived.Test.YtnphdacibageiaaGreatRunFxBase
set_option linter.all false
set_option maxRecDepth 1000000
set_option maxHeartbeats 12800000
namespace Go.Proofs.YtnphdacibageiaaGreat
open Go.RowKit
section
variable {P:Program} {w:World}
theorem wp_append_rd {o:Oper} {a:Act} {Q:Exit→Act→World→Prop} {K:Act→World→Prop} (s x:Operand) (t:TypeId)
  (ho:o.op= .call {callee:= .builtin .append,args:= #[s,x],argTypes:= #[t,t]})
  (base:Nat) (e:TypeId) (i:TypeInfo) (z:Value) (size bytes:Nat) (ht:P.underlying t=some (.slice e)) (hi:P.info? e=some i) (hz:i.zero=some z)
  (hsize:i.size=size) (hby:i.bytes=bytes) (hzs:z.cells.size=size) (hsz:0<size)
  (v:Value) (n:Nat) (xs:List Value) (hs:a.eval s=v) (hown:w.ownsRow base e size v n xs)
  (ad:Addr) (m c:Nat) (news:List Value) (hx:a.eval x= .slice (some ad) m c) (hr:Rd w size (some ad) m news) (hm:0<m) (h1:∀u∈news,u.oneCell'=true)
  (h63:n+m≤maxLen) (hbytes:(n+m)*bytes≤140737488355328) (hbase:base≤w.heap.size)
  (h:∀v' w',w'.ownsRow base e size v' (n+m) (xs++news)→w.grownBy w' v.ownBlock→(v'.ownBlock=v.ownBlock∨v'.ownBlock=some w.heap.size)→K (a.put o.dst v') w'):Oper.wp P o a w K Q:=by
 obtain ⟨ad',e',_,hc⟩:=hr.2 hm
 injection e' with e'
 subst e'
 obtain ⟨v',w',hr1,h2,h3,_,h4⟩:=run_append_own_at (P:=P) w base t o.type e i z size bytes ht hi hz hsize hby hzs hsz v n xs hown ad m c news hr.1 hc h1 h63 hbytes hbase
 unfold Oper.wp execOp
 simp only[ho,resolve,invoke,builtin,Sem.run_bind,Sem.run_pure,Result.andThen_ok,List.map_toArray,List.map_cons,List.map_nil,hs,hx,hr1]
 exact h v' w' h2 h3 h4
end
def FC (s:Sr) (A:Option Addr) (c:Nat) (start step:Int) (B0 B9:Nat) (A':Option Addr) (k c':Nat) (W:World):Prop:=
 W.cell? ⟨B0,0,none⟩=some (.string s.name)∧
 W.cell? ⟨B0,1,none⟩=some (.int .i64 s.start)∧
 W.cell? ⟨B0,2,none⟩=some (.int .i64 s.step)∧
 W.cell? ⟨B0,3,none⟩=some (.slice A s.vals.length c)∧
 W.cell? ⟨B0,4,none⟩=some (.int .i64 s.cons)∧
 W.cell? ⟨B0+1,0,none⟩=some (.string ⟨#[]⟩)∧
 W.cell? ⟨B0+1,1,none⟩=some (.int .i64 0)∧
 W.cell? ⟨B0+1,2,none⟩=some (.int .i64 0)∧
 W.cell? ⟨B0+1,3,none⟩=some (.slice none 0 0)∧
 W.cell? ⟨B0+1,4,none⟩=some (.int .i64 0)∧
 W.frozen? ⟨B0+1,0,none⟩=false∧
 W.frozen? ⟨B0+1,1,none⟩=false∧
 W.frozen? ⟨B0+1,2,none⟩=false∧
 W.frozen? ⟨B0+1,3,none⟩=false∧
 W.frozen? ⟨B0+1,4,none⟩=false∧
 W.cell? ⟨B9,0,none⟩=some (.string s.name)∧
 W.cell? ⟨B9,1,none⟩=some (.int .i64 start)∧
 W.cell? ⟨B9,2,none⟩=some (.int .i64 step)∧
 W.cell? ⟨B9,3,none⟩=some ((.slice A' k c'))∧
 W.cell? ⟨B9,4,none⟩=some (.int .i64 s.cons)∧
 W.frozen? ⟨B9,3,none⟩=false∧
 B9<W.heap.size
theorem FC.below {s:Sr} {A:Option Addr} {c:Nat} {start step:Int} {B0 B9:Nat} {A':Option Addr} {k c':Nat} {W W':World} (h:FC s A c start step B0 B9 A' k c' W) (hz:B0+1<B9) (g:Below (B9+1) W W'):FC s A c start step B0 B9 A' k c' W':=by
 obtain ⟨q0,q1,q2,q3,q4,p0,p1,p2,p3,p4,g0,g1,g2,g3,g4,o0,o1,o2,o3,o4,f3,sz⟩:=h
 have h0:B0<B9+1:=by omega
 have h1:B0+1<B9+1:=by omega
 have h2:B9<B9+1:=by omega
 exact ⟨(g.cell (p:=⟨B0,0,none⟩) h0).trans q0,(g.cell (p:=⟨B0,1,none⟩) h0).trans q1,(g.cell (p:=⟨B0,2,none⟩) h0).trans q2,(g.cell (p:=⟨B0,3,none⟩) h0).trans q3,(g.cell (p:=⟨B0,4,none⟩) h0).trans q4,(g.cell (p:=⟨B0+1,0,none⟩) h1).trans p0,(g.cell (p:=⟨B0+1,1,none⟩) h1).trans p1,(g.cell (p:=⟨B0+1,2,none⟩) h1).trans p2,(g.cell (p:=⟨B0+1,3,none⟩) h1).trans p3,(g.cell (p:=⟨B0+1,4,none⟩) h1).trans p4,(g.frozen (p:=⟨B0+1,0,none⟩) h1).trans g0,(g.frozen (p:=⟨B0+1,1,none⟩) h1).trans g1,(g.frozen (p:=⟨B0+1,2,none⟩) h1).trans g2,(g.frozen (p:=⟨B0+1,3,none⟩) h1).trans g3,(g.frozen (p:=⟨B0+1,4,none⟩) h1).trans g4,(g.cell (p:=⟨B9,0,none⟩) h2).trans o0,(g.cell (p:=⟨B9,1,none⟩) h2).trans o1,(g.cell (p:=⟨B9,2,none⟩) h2).trans o2,(g.cell (p:=⟨B9,3,none⟩) h2).trans o3,(g.cell (p:=⟨B9,4,none⟩) h2).trans o4,(g.frozen (p:=⟨B9,3,none⟩) h2).trans f3,Nat.lt_of_lt_of_le sz g.size⟩
theorem FC.gr {s:Sr} {A:Option Addr} {c:Nat} {start step:Int} {B0 B9:Nat} {A':Option Addr} {k c':Nat} {W W':World} (h:FC s A c start step B0 B9 A' k c' W) (hz:B0+1<B9) (g:Gr W W'):FC s A c start step B0 B9 A' k c' W':=
 h.below hz (Below.mono g (by obtain ⟨_,_,_,_,_,_,_,_,_,_,_,_,_,_,_,_,_,_,_,_,_,sz⟩:=h;omega))
theorem FC.set {s:Sr} {A:Option Addr} {c:Nat} {start step:Int} {B0 B9:Nat} {A':Option Addr} {k c':Nat} {W:World} (h:FC s A c start step B0 B9 A' k c' W) (hz:B0+1<B9) (A2:Option Addr) (k2 c2:Nat) :
  FC s A c start step B0 B9 A2 k2 c2 (W.setCell ⟨B9,3,none⟩ (.slice A2 k2 c2)):=by
 obtain ⟨q0,q1,q2,q3,q4,p0,p1,p2,p3,p4,g0,g1,g2,g3,g4,o0,o1,o2,o3,o4,f3,sz⟩:=h
 have n0:B9≠B0:=by omega
 have n1:B9≠B0+1:=by omega
 refine ⟨?_,?_,?_,?_,?_,?_,?_,?_,?_,?_,?_,?_,?_,?_,?_,?_,?_,?_,?_,?_,?_,?_⟩
 ·
  exact (World.cell?_setCell_far W ⟨B9,3,none⟩ ⟨B0,0,none⟩ _ n0).trans q0
 ·
  exact (World.cell?_setCell_far W ⟨B9,3,none⟩ ⟨B0,1,none⟩ _ n0).trans q1
 ·
  exact (World.cell?_setCell_far W ⟨B9,3,none⟩ ⟨B0,2,none⟩ _ n0).trans q2
 ·
  exact (World.cell?_setCell_far W ⟨B9,3,none⟩ ⟨B0,3,none⟩ _ n0).trans q3
 ·
  exact (World.cell?_setCell_far W ⟨B9,3,none⟩ ⟨B0,4,none⟩ _ n0).trans q4
 ·
  exact (World.cell?_setCell_far W ⟨B9,3,none⟩ ⟨B0+1,0,none⟩ _ n1).trans p0
 ·
  exact (World.cell?_setCell_far W ⟨B9,3,none⟩ ⟨B0+1,1,none⟩ _ n1).trans p1
 ·
  exact (World.cell?_setCell_far W ⟨B9,3,none⟩ ⟨B0+1,2,none⟩ _ n1).trans p2
 ·
  exact (World.cell?_setCell_far W ⟨B9,3,none⟩ ⟨B0+1,3,none⟩ _ n1).trans p3
 ·
  exact (World.cell?_setCell_far W ⟨B9,3,none⟩ ⟨B0+1,4,none⟩ _ n1).trans p4
 ·
  exact (by simp:(W.setCell ⟨B9,3,none⟩ (.slice A2 k2 c2)).frozen? ⟨B0+1,0,none⟩=W.frozen? ⟨B0+1,0,none⟩).trans g0
 ·
  exact (by simp:(W.setCell ⟨B9,3,none⟩ (.slice A2 k2 c2)).frozen? ⟨B0+1,1,none⟩=W.frozen? ⟨B0+1,1,none⟩).trans g1
 ·
  exact (by simp:(W.setCell ⟨B9,3,none⟩ (.slice A2 k2 c2)).frozen? ⟨B0+1,2,none⟩=W.frozen? ⟨B0+1,2,none⟩).trans g2
 ·
  exact (by simp:(W.setCell ⟨B9,3,none⟩ (.slice A2 k2 c2)).frozen? ⟨B0+1,3,none⟩=W.frozen? ⟨B0+1,3,none⟩).trans g3
 ·
  exact (by simp:(W.setCell ⟨B9,3,none⟩ (.slice A2 k2 c2)).frozen? ⟨B0+1,4,none⟩=W.frozen? ⟨B0+1,4,none⟩).trans g4
 ·
  exact (World.cell?_setCell_other W ⟨B9,3,none⟩ ⟨B9,0,none⟩ _ (by simp)).trans o0
 ·
  exact (World.cell?_setCell_other W ⟨B9,3,none⟩ ⟨B9,1,none⟩ _ (by simp)).trans o1
 ·
  exact (World.cell?_setCell_other W ⟨B9,3,none⟩ ⟨B9,2,none⟩ _ (by simp)).trans o2
 ·
  go_simp
 ·
  exact (World.cell?_setCell_other W ⟨B9,3,none⟩ ⟨B9,4,none⟩ _ (by simp)).trans o4
 ·
  exact (by simp:(W.setCell ⟨B9,3,none⟩ (.slice A2 k2 c2)).frozen? ⟨B9,3,none⟩=W.frozen? ⟨B9,3,none⟩).trans f3
 ·
  simpa using sz
theorem own_at (B:Nat) (w:World) (hB:B=w.heap.size) (e:TypeId) (size:Nat):(w.alloc (.cells #[] e)).ownsRow B e size (.slice (some ⟨B,0,none⟩) 0 0) 0 []:=by
 subst hB;exact own_empty w _ (Nat.le_refl _) e size
theorem own_any (s:Sr) (A:Option Addr) (c:Nat) (w:World) (hl:s.vals.length≤1000000) (hr:Rv w A s.vals) :
  Calls Tryz.prog 28 #[.agg #[.string s.name, .int .i64 s.start, .int .i64 s.step, .slice A s.vals.length c, .int .i64 s.cons]] w (RetS s w):=by
 go_enter Tryz.func28,Tryz.ntmps28
 go_wp2_with fail
 refine (clone_any A c s.vals _ hl ?hr).mono ?_
 case hr=>exact hr.gr gq
 rintro e w1 ⟨A',c',rfl,hrv,hg,hnew⟩
 obtain ⟨hc,hf⟩:=hg.cells
 have z1:=hg.size
 simp at z1
 have z0:w.heap.size<w1.heap.size:=by omega
 have z2:w.heap.size+1<w1.heap.size:=by omega
 have hgw:Gr w w1:=gq
 have q0:w1.cell? ⟨w.heap.size,0,none⟩=some (.string s.name):=by go_simp
 have f0:w1.frozen? ⟨w.heap.size,0,none⟩=false:=by go_simp
 have q1:w1.cell? ⟨w.heap.size,1,none⟩=some (.int .i64 s.start):=by go_simp
 have f1:w1.frozen? ⟨w.heap.size,1,none⟩=false:=by go_simp
 have q2:w1.cell? ⟨w.heap.size,2,none⟩=some (.int .i64 s.step):=by go_simp
 have f2:w1.frozen? ⟨w.heap.size,2,none⟩=false:=by go_simp
 have q3:w1.cell? ⟨w.heap.size,3,none⟩=some (.slice A s.vals.length c):=by go_simp
 have f3:w1.frozen? ⟨w.heap.size,3,none⟩=false:=by go_simp
 have q4:w1.cell? ⟨w.heap.size,4,none⟩=some (.int .i64 s.cons):=by go_simp
 have f4:w1.frozen? ⟨w.heap.size,4,none⟩=false:=by go_simp
 have p0:w1.cell? ⟨w.heap.size+1,0,none⟩=some (.string ⟨#[]⟩):=by go_simp
 have g0:w1.frozen? ⟨w.heap.size+1,0,none⟩=false:=by go_simp
 have p1:w1.cell? ⟨w.heap.size+1,1,none⟩=some (.int .i64 0):=by go_simp
 have g1:w1.frozen? ⟨w.heap.size+1,1,none⟩=false:=by go_simp
 have p2:w1.cell? ⟨w.heap.size+1,2,none⟩=some (.int .i64 0):=by go_simp
 have g2:w1.frozen? ⟨w.heap.size+1,2,none⟩=false:=by go_simp
 have p3:w1.cell? ⟨w.heap.size+1,3,none⟩=some (.slice none 0 0):=by go_simp
 have g3:w1.frozen? ⟨w.heap.size+1,3,none⟩=false:=by go_simp
 have p4:w1.cell? ⟨w.heap.size+1,4,none⟩=some (.int .i64 0):=by go_simp
 have g4:w1.frozen? ⟨w.heap.size+1,4,none⟩=false:=by go_simp
 have hn1:∀ad,A'=some ad→w.heap.size+1<ad.block:=fun ad h=>by have:=hnew ad h;simp at this;omega
 have hn0:∀ad,A'=some ad→w.heap.size<ad.block:=fun ad h=>by have:=hn1 ad h;omega
 clear hc hf hg hnew
 go_wp2
 refine bodyPost_ret (v:= .agg #[.string s.name, .int .i64 s.start, .int .i64 s.step, .slice A' s.vals.length c', .int .i64 s.cons]) (by simp[results,Tryz.results28,go_sem, *]) rfl ⟨A',c',rfl,?_,?_,?_⟩
 ·
  exact (Rv.set (Rv.set (Rv.set (Rv.set (Rv.set (Rv.set hrv _ _ hn0) _ _ hn1) _ _ hn1) _ _ hn1) _ _ hn1) _ _ hn1)
 ·
  exact (Gr.setCell (Gr.setCell (Gr.setCell (Gr.setCell (Gr.setCell (Gr.setCell hgw (Nat.le_refl _) _) (Nat.le_succ _) _) (Nat.le_succ _) _) (Nat.le_succ _) _) (Nat.le_succ _) _) (Nat.le_succ _) _)
 ·
  exact fun ad h=>Nat.le_of_lt (hn0 ad h)
theorem rown_any (s:Sr) (A:Option Addr) (c:Nat) (w:World) (hl:s.vals.length≤1000000) (hr:Rv w A s.vals) :
  Calls Tryz.prog 10 #[.agg #[.string s.name, .int .i64 s.start, .int .i64 s.step, .slice A s.vals.length c, .int .i64 s.cons]] w (RetS s w):=by
 obtain ⟨i0,hi,hz0,hz1,hz2⟩:=info_parts info_val
 have hown0:=own_at (w.heap.size+1+1) ((w.alloc (.cells #[.string s.name, .int .i64 s.start, .int .i64 s.step, .slice A s.vals.length c, .int .i64 s.cons] 34)).alloc (.cells #[.string ⟨#[]⟩, .int .i64 0, .int .i64 0, .slice none 0 0, .int .i64 0] 34)) (by simp) 25 2
 have hr0:=hr.gr (Gr.alloc (Gr.alloc (Gr.alloc (Gr.refl w) (.cells #[.string s.name, .int .i64 s.start, .int .i64 s.step, .slice A s.vals.length c, .int .i64 s.cons] 34)) (.cells #[.string ⟨#[]⟩, .int .i64 0, .int .i64 0, .slice none 0 0, .int .i64 0] 34)) (.cells #[] 25))
 have hg0:=Gr.alloc (Gr.alloc (Gr.alloc (Gr.refl w) (.cells #[.string s.name, .int .i64 s.start, .int .i64 s.step, .slice A s.vals.length c, .int .i64 s.cons] 34)) (.cells #[.string ⟨#[]⟩, .int .i64 0, .int .i64 0, .slice none 0 0, .int .i64 0] 34)) (.cells #[] 25)
 have hg1:=Gr.alloc (Gr.refl ((w.alloc (.cells #[.string s.name, .int .i64 s.start, .int .i64 s.step, .slice A s.vals.length c, .int .i64 s.cons] 34)).alloc (.cells #[.string ⟨#[]⟩, .int .i64 0, .int .i64 0, .slice none 0 0, .int .i64 0] 34))) (.cells #[] 25)
 go_enter Tryz.func10,Tryz.ntmps10
 go_wp2_with
  (
   at_builtin
   refine wpList_append_rd rfl (.tmp 3) (.tmp 5) 32 rfl (w.heap.size+1+1) 25 i0 _ 2 16 Tryz.underlying32 hi hz0 hz1 hz2 rfl (by decide) _ _ _ rfl hown0 A s.vals.length c (vcells s.vals) rfl hr0 (vcells_one _) (by unfold maxLen;omega) (by omega) (by simp) ?_
   intro v' w1 hown2 hgr2 hat2
   have hgw:Gr w w1:=Gr.grown hg0 hgr2 (fun k hk=>by have h:some (w.heap.size+1+1)=some k:=hk;injection h with h;omega)
   have hgB:=Gr.grown hg1 hgr2 (fun k hk=>by have h:some (w.heap.size+1+1)=some k:=hk;injection h with h;simp;omega)
   rw[Nat.zero_add,List.nil_append] at hown2
   obtain ⟨A',c',hv⟩:=own_form hown2
   subst hv
   have hrv:=Rd.own hown2
   have hn1:∀ad,A'=some ad→w.heap.size+1<ad.block:=fun ad h=>by have:=own_new hown2 ad h;omega
   have hn0:∀ad,A'=some ad→w.heap.size<ad.block:=fun ad h=>by have:=hn1 ad h;omega
   obtain ⟨hc,hf⟩:=hgB.cells
   have z1:=hgB.size
   simp at z1
   have z0:w.heap.size<w1.heap.size:=by omega
   have z2:w.heap.size+1<w1.heap.size:=by omega
   have q0:w1.cell? ⟨w.heap.size,0,none⟩=some (.string s.name):=by go_simp
   have f0:w1.frozen? ⟨w.heap.size,0,none⟩=false:=by go_simp
   have q1:w1.cell? ⟨w.heap.size,1,none⟩=some (.int .i64 s.start):=by go_simp
   have f1:w1.frozen? ⟨w.heap.size,1,none⟩=false:=by go_simp
   have q2:w1.cell? ⟨w.heap.size,2,none⟩=some (.int .i64 s.step):=by go_simp
   have f2:w1.frozen? ⟨w.heap.size,2,none⟩=false:=by go_simp
   have q3:w1.cell? ⟨w.heap.size,3,none⟩=some (.slice A s.vals.length c):=by go_simp
   have f3:w1.frozen? ⟨w.heap.size,3,none⟩=false:=by go_simp
   have q4:w1.cell? ⟨w.heap.size,4,none⟩=some (.int .i64 s.cons):=by go_simp
   have f4:w1.frozen? ⟨w.heap.size,4,none⟩=false:=by go_simp
   have p0:w1.cell? ⟨w.heap.size+1,0,none⟩=some (.string ⟨#[]⟩):=by go_simp
   have g0:w1.frozen? ⟨w.heap.size+1,0,none⟩=false:=by go_simp
   have p1:w1.cell? ⟨w.heap.size+1,1,none⟩=some (.int .i64 0):=by go_simp
   have g1:w1.frozen? ⟨w.heap.size+1,1,none⟩=false:=by go_simp
   have p2:w1.cell? ⟨w.heap.size+1,2,none⟩=some (.int .i64 0):=by go_simp
   have g2:w1.frozen? ⟨w.heap.size+1,2,none⟩=false:=by go_simp
   have p3:w1.cell? ⟨w.heap.size+1,3,none⟩=some (.slice none 0 0):=by go_simp
   have g3:w1.frozen? ⟨w.heap.size+1,3,none⟩=false:=by go_simp
   have p4:w1.cell? ⟨w.heap.size+1,4,none⟩=some (.int .i64 0):=by go_simp
   have g4:w1.frozen? ⟨w.heap.size+1,4,none⟩=false:=by go_simp
   clear hc hf hgB hg0 hg1 hgr2 hat2 hown2 hown0 hr0)
 refine bodyPost_ret (v:= .agg #[.string s.name, .int .i64 s.start, .int .i64 s.step, .slice A' s.vals.length c', .int .i64 s.cons]) (by simp[results,Tryz.results10,go_sem, *]) rfl ⟨A',c',rfl,?_,?_,?_⟩
 ·
  exact (Rv.set (Rv.set (Rv.set (Rv.set (Rv.set (Rv.set hrv _ _ hn0) _ _ hn1) _ _ hn1) _ _ hn1) _ _ hn1) _ _ hn1)
 ·
  exact (Gr.setCell (Gr.setCell (Gr.setCell (Gr.setCell (Gr.setCell (Gr.setCell hgw (Nat.le_refl _) _) (Nat.le_succ _) _) (Nat.le_succ _) _) (Nat.le_succ _) _) (Nat.le_succ _) _) (Nat.le_succ _) _)
 ·
  exact fun ad h=>Nat.le_of_lt (hn0 ad h)
def FB (s:Sr) (A:Option Addr) (c:Nat) (B0:Nat) (W:World):Prop:=
 W.cell? ⟨B0,0,none⟩=some (.string s.name)∧W.cell? ⟨B0,1,none⟩=some (.int .i64 s.start)∧W.cell? ⟨B0,2,none⟩=some (.int .i64 s.step)∧W.cell? ⟨B0,3,none⟩=some (.slice A s.vals.length c)∧W.cell? ⟨B0,4,none⟩=some (.int .i64 s.cons)∧W.cell? ⟨B0+1,0,none⟩=some (.string ⟨#[]⟩)∧W.cell? ⟨B0+1,1,none⟩=some (.int .i64 0)∧W.cell? ⟨B0+1,2,none⟩=some (.int .i64 0)∧W.cell? ⟨B0+1,3,none⟩=some (.slice none 0 0)∧W.cell? ⟨B0+1,4,none⟩=some (.int .i64 0)∧W.frozen? ⟨B0+1,0,none⟩=false∧W.frozen? ⟨B0+1,1,none⟩=false∧W.frozen? ⟨B0+1,2,none⟩=false∧W.frozen? ⟨B0+1,3,none⟩=false∧W.frozen? ⟨B0+1,4,none⟩=false∧B0+1<W.heap.size
theorem FB.gr {s:Sr} {A:Option Addr} {c:Nat} {B0:Nat} {W W':World} (h:FB s A c B0 W) (g:Gr W W'):FB s A c B0 W':=by
 obtain ⟨q0,q1,q2,q3,q4,p0,p1,p2,p3,p4,g0,g1,g2,g3,g4,sz⟩:=h
 have h0:B0<W.heap.size:=by omega
 exact ⟨(g.cell (p:=⟨B0,0,none⟩) h0).trans q0,(g.cell (p:=⟨B0,1,none⟩) h0).trans q1,(g.cell (p:=⟨B0,2,none⟩) h0).trans q2,(g.cell (p:=⟨B0,3,none⟩) h0).trans q3,(g.cell (p:=⟨B0,4,none⟩) h0).trans q4,(g.cell (p:=⟨B0+1,0,none⟩) sz).trans p0,(g.cell (p:=⟨B0+1,1,none⟩) sz).trans p1,(g.cell (p:=⟨B0+1,2,none⟩) sz).trans p2,(g.cell (p:=⟨B0+1,3,none⟩) sz).trans p3,(g.cell (p:=⟨B0+1,4,none⟩) sz).trans p4,(g.frozen (p:=⟨B0+1,0,none⟩) sz).trans g0,(g.frozen (p:=⟨B0+1,1,none⟩) sz).trans g1,(g.frozen (p:=⟨B0+1,2,none⟩) sz).trans g2,(g.frozen (p:=⟨B0+1,3,none⟩) sz).trans g3,(g.frozen (p:=⟨B0+1,4,none⟩) sz).trans g4,Nat.lt_of_lt_of_le sz g.size⟩
theorem own_cap {w:World} {base:Nat} {e:TypeId} {size n c:Nat} {A:Option Addr} {xs:List Value} (h:w.ownsRow base e size (.slice A n c) n xs):n≤c:=by
 obtain ⟨_,⟨hv,h0⟩|⟨g,cap,cur,hv,_,_,hc,_⟩⟩:=h
 ·
  omega
 ·
  injection hv with _ _ h3;omega
def KC (B:Nat) (v:Value) (W:World):Prop:=W.cell? ⟨B,0,none⟩=some (.string ⟨#[97]⟩)∧W.cell? ⟨B,1,none⟩=some (.int .i64 0)∧W.cell? ⟨B,2,none⟩=some (.int .i64 10)∧W.cell? ⟨B,3,none⟩=some (v)∧W.cell? ⟨B,4,none⟩=some (.int .i64 0)∧W.frozen? ⟨B,3,none⟩=false∧B<W.heap.size
theorem KC.below {B:Nat} {v:Value} {W W':World} (h:KC B v W) (g:Below (B+1) W W'):KC B v W':=by
 obtain ⟨c0,c1,c2,c3,c4,f3,sz⟩:=h
 exact ⟨(g.cell (p:=⟨B,0,none⟩) (Nat.lt_succ_self B)).trans c0,(g.cell (p:=⟨B,1,none⟩) (Nat.lt_succ_self B)).trans c1,(g.cell (p:=⟨B,2,none⟩) (Nat.lt_succ_self B)).trans c2,(g.cell (p:=⟨B,3,none⟩) (Nat.lt_succ_self B)).trans c3,(g.cell (p:=⟨B,4,none⟩) (Nat.lt_succ_self B)).trans c4,(g.frozen (p:=⟨B,3,none⟩) (Nat.lt_succ_self B)).trans f3,Nat.lt_of_lt_of_le sz g.size⟩
theorem KC.set {B:Nat} {v:Value} {W:World} (h:KC B v W) (u:Value):KC B u (W.setCell ⟨B,3,none⟩ u):=by
 obtain ⟨c0,c1,c2,c3,c4,f3,sz⟩:=h
 refine ⟨?_,?_,?_,?_,?_,?_,?_⟩
 ·
  exact (World.cell?_setCell_other W ⟨B,3,none⟩ ⟨B,0,none⟩ _ (by simp)).trans c0
 ·
  exact (World.cell?_setCell_other W ⟨B,3,none⟩ ⟨B,1,none⟩ _ (by simp)).trans c1
 ·
  exact (World.cell?_setCell_other W ⟨B,3,none⟩ ⟨B,2,none⟩ _ (by simp)).trans c2
 ·
  go_simp
 ·
  exact (World.cell?_setCell_other W ⟨B,3,none⟩ ⟨B,4,none⟩ _ (by simp)).trans c4
 ·
  exact (by simp:(W.setCell ⟨B,3,none⟩ u).frozen? ⟨B,3,none⟩=W.frozen? ⟨B,3,none⟩).trans f3
 ·
  simpa using sz
def VAt (w:World) (B:Nat) (v:Vl):Prop:=w.cell? ⟨B,0,none⟩=some (.bool v.ok)∧w.cell? ⟨B,1,none⟩=some (.int .i64 v.n)∧B<w.heap.size
theorem VAt.gr {w w':World} {B:Nat} {v:Vl} (h:VAt w B v) (g:Gr w w'):VAt w' B v:=
 ⟨(g.cell (p:=⟨B,0,none⟩) h.2.2).trans h.1,(g.cell (p:=⟨B,1,none⟩) h.2.2).trans h.2.1,Nat.lt_of_lt_of_le h.2.2 g.size⟩
def FAt (w:World) (B:Nat) (r:Fr):Prop:=w.cell? ⟨B,0,none⟩=some (.string r.nm)∧w.cell? ⟨B,1,none⟩=some (.int .i64 r.kind)∧w.cell? ⟨B,2,none⟩=some (.int .i64 r.by_)∧w.cell? ⟨B,3,none⟩=some (.bool r.least)∧B<w.heap.size
theorem FAt.gr {w w':World} {B:Nat} {r:Fr} (h:FAt w B r) (g:Gr w w'):FAt w' B r:=
 ⟨(g.cell (p:=⟨B,0,none⟩) h.2.2.2.2).trans h.1,(g.cell (p:=⟨B,1,none⟩) h.2.2.2.2).trans h.2.1,(g.cell (p:=⟨B,2,none⟩) h.2.2.2.2).trans h.2.2.1,(g.cell (p:=⟨B,3,none⟩) h.2.2.2.2).trans h.2.2.2.1,Nat.lt_of_lt_of_le h.2.2.2.2 g.size⟩
theorem above_any (K R:Nat) (k:Vl) (r:Fr) (x:Sq) (w:World) (hK:VAt w K k) (hR:FAt w R r) (hl:x.s.vals.length≤1000000) (hv:Rv w x.A x.s.vals) :
  Calls Tryz.prog 56 #[.agg #[.string x.s.name, .int .i64 x.s.start, .int .i64 x.s.step, .slice x.A x.s.vals.length x.c, .int .i64 x.s.cons], .pointer (some ⟨K,0,none⟩), .pointer (some ⟨R,0,none⟩)] w fun e w'=>e= .returned (.bool (lessB k (ofR r.by_ x.s.vals)))∧Gr w w':=by
 have gw:Gr w (w.alloc (.cells #[.string x.s.name, .int .i64 x.s.start, .int .i64 x.s.step, .slice x.A x.s.vals.length x.c, .int .i64 x.s.cons] 34)):=Gr.alloc (Gr.refl _) _
 have HF:Hid (∀W,Gr (w.alloc (.cells #[.string x.s.name, .int .i64 x.s.start, .int .i64 x.s.step, .slice x.A x.s.vals.length x.c, .int .i64 x.s.cons] 34)) W→W.cell? ⟨K,0,none⟩=some (.bool k.ok)∧W.cell? ⟨K,1,none⟩=some (.int .i64 k.n)∧W.cell? ⟨R,0,none⟩=some (.string r.nm)∧W.cell? ⟨R,1,none⟩=some (.int .i64 r.kind)∧W.cell? ⟨R,2,none⟩=some (.int .i64 r.by_)∧W.cell? ⟨R,3,none⟩=some (.bool r.least)∧W.cell? ⟨w.heap.size,0,none⟩=some (.string x.s.name)∧W.cell? ⟨w.heap.size,1,none⟩=some (.int .i64 x.s.start)∧W.cell? ⟨w.heap.size,2,none⟩=some (.int .i64 x.s.step)∧W.cell? ⟨w.heap.size,3,none⟩=some (.slice x.A x.s.vals.length x.c)∧W.cell? ⟨w.heap.size,4,none⟩=some (.int .i64 x.s.cons)):=Lib.hid (fun W hW=>by
  have h1:=(hK.gr gw).gr hW
  have h2:=(hR.gr gw).gr hW
  refine ⟨h1.1,h1.2.1,h2.1,h2.2.1,h2.2.2.1,h2.2.2.2.1,?_,?_,?_,?_,?_⟩
  ·
   exact (hW.cell (p:=⟨w.heap.size,0,none⟩) (by simp)).trans (by go_simp)
  ·
   exact (hW.cell (p:=⟨w.heap.size,1,none⟩) (by simp)).trans (by go_simp)
  ·
   exact (hW.cell (p:=⟨w.heap.size,2,none⟩) (by simp)).trans (by go_simp)
  ·
   exact (hW.cell (p:=⟨w.heap.size,3,none⟩) (by simp)).trans (by go_simp)
  ·
   exact (hW.cell (p:=⟨w.heap.size,4,none⟩) (by simp)).trans (by go_simp))
 clear hK hR
 go_enter Tryz.func56,Tryz.ntmps56
 go_wp2
 refine region_Q (by kernel_rfl) (by kernel_rfl) ?_
 refine q_val (v:=?qv1) (by rfl) (fun W hW=>?qh1) ?qr1
 case qh1=>obtain ⟨k0,k1,r0,r1,r2,r3,b0,b1,b2,b3,b4⟩:=HF.out W hW;go_simp;rfl
 simp only[Pu]
 refine q_val (v:=?qv2) (by rfl) (fun W hW=>?qh2) ?qr2
 case qh2=>obtain ⟨k0,k1,r0,r1,r2,r3,b0,b1,b2,b3,b4⟩:=HF.out W hW;go_simp;rfl
 simp only[Pu]
 refine q_val (v:=?qv3) (by rfl) (fun W hW=>?qh3) ?qr3
 case qh3=>obtain ⟨k0,k1,r0,r1,r2,r3,b0,b1,b2,b3,b4⟩:=HF.out W hW;go_simp;rfl
 simp only[Pu]
 refine q_call (v:= .agg #[.bool (ofR r.by_ x.s.vals).ok, .int .i64 (ofR r.by_ x.s.vals).n]) (f:=?qf4) (args:=?qa4) (by rfl) (fun W hW=>?qh4) (fun W hW=>?qc4) ?qr4
 case qh4=>go_simp;constructor<;>rfl
 case qc4=>exact (rowof_any r x.s x.A x.c W hl ((hv.gr gw).gr hW)).mono (fun e w' h=>⟨h.1,Gr.trans hW h.2⟩)
 simp only[Pu]
 refine q_call (v:= .bool (lessB k (ofR r.by_ x.s.vals))) (f:=?qf5) (args:=?qa5) (by rfl) (fun W hW=>?qh5) (fun W hW=>?qc5) ?qr5
 case qh5=>go_simp;constructor<;>rfl
 case qc5=>exact (less_any k (ofR r.by_ x.s.vals) W).mono (fun e w' h=>⟨h.1,Gr.trans hW h.2⟩)
 simp only[Pu]
 refine qv ?_;simp only[Pu]
 refine wpQuiet_nil ?_
 intro w6 hg6
 have gw6:=Gr.trans gw hg6
 clear HF gw hg6
 go_wp2
 go_ret
 exact ⟨rfl,gw6⟩
def belowB (k v:Vl):Bool:=v.ok&&(k.ok&&decide (v.n≤k.n))
theorem below_any (K R:Nat) (k:Vl) (r:Fr) (x:Sq) (w:World) (hK:VAt w K k) (hR:FAt w R r) (hl:x.s.vals.length≤1000000) (hv:Rv w x.A x.s.vals) :
  Calls Tryz.prog 58 #[.agg #[.string x.s.name, .int .i64 x.s.start, .int .i64 x.s.step, .slice x.A x.s.vals.length x.c, .int .i64 x.s.cons], .pointer (some ⟨R,0,none⟩), .pointer (some ⟨K,0,none⟩)] w fun e w'=>e= .returned (.bool (belowB k (ofR r.by_ x.s.vals)))∧Gr w w':=by
 have Q:=fun w hr=>rowof_any r x.s x.A x.c w hl hr
 unfold aggFr aggSr at Q
 obtain ⟨v,hv0⟩:∃v,ofR r.by_ x.s.vals=v:=⟨_,rfl⟩
 rw[hv0] at Q ⊢
 clear hv0
 have hk0:=hK.2.2
 have hr0:=hR.2.2.2.2
 obtain ⟨r0,r1,r2,r3,_⟩:=id hR
 obtain ⟨ok,n⟩:=v
 obtain ⟨ko,kn⟩:=k
 go_enter Tryz.func58,Tryz.ntmps58
 go_wp2_with fail
 refine (Q _ ?hr2).mono ?_
 case hr2=>exact hv.gr gq
 rintro e w1 ⟨rfl,hg⟩
 have gw:Gr w w1:=gq
 have h1:=hK.gr gw
 obtain ⟨k0,k1,k2⟩:=id h1
 simp only at k0 k1
 clear hK hR r0 r1 r2 r3 hg h1
 cases ok<;>cases ko
 case true.true=>
  by_cases hle:n≤kn
  ·
   go_wp2
   go_ret
   exact ⟨by simp[belowB,hle],gq⟩
  ·
   go_wp2
   go_ret
   exact ⟨by simp[belowB,hle],gq⟩
 all_goals
  go_wp2
  go_ret
  exact ⟨by simp[belowB],gq⟩
theorem keepsk_any (x:Sq) (w:World) (hl:x.s.vals.length≤1000000) (hv:Rv w x.A x.s.vals) :
  Calls Tryz.prog 59 #[.agg #[.string x.s.name, .int .i64 x.s.start, .int .i64 x.s.step, .slice x.A x.s.vals.length x.c, .int .i64 x.s.cons]] w fun e w'=>e= .returned (.bool (!(kn x.s.vals).isEmpty))∧Gr w w':=by
 have Q:=fun w hr=>known_vals_any x.A x.c x.s.vals w hl hr
 generalize kn x.s.vals=K at Q ⊢
 go_enter Tryz.func59,Tryz.ntmps59
 go_wp2_with fail
 refine (Q _ ?hr2).mono ?_
 case hr2=>exact hv.gr gq
 rintro e w1 ⟨A1,c1,rfl,hrv,hg⟩
 have gw:Gr w w1:=gq
 cases K with
 | nil=>
  clear hrv hg
  go_wp2
  go_ret
  exact ⟨rfl,gw⟩
 | cons y K=>
  have hp:(0:Int)<((y::K).length:Int):=by simp only[List.length_cons];omega
  have hd:decide (0<(y::K).length)=true:=rfl
  generalize (y::K).length=n at hp hd ⊢
  clear hrv hg
  go_wp2
  go_ret
  exact ⟨rfl,gw⟩
theorem thosek_any (p:Sq→Bool) (A:Option Addr) (c:Nat) (L:List Sq) (w:World) (hl:L.length≤1000000) (hr:Rl w A L)
  (hQ:∀x∈L,∀W,Gr w W→Calls Tryz.prog 59 #[.agg #[.string x.s.name, .int .i64 x.s.start, .int .i64 x.s.step, .slice x.A x.s.vals.length x.c, .int .i64 x.s.cons]] W fun e w'=>e= .returned (.bool (p x))∧Gr W w') :
  Calls Tryz.prog 24 #[.slice A L.length c, .func (.func 59) #[] #[]] w (RetL (L.filter p) w):=by
 obtain ⟨i0,hi0,hz0,hz1,hz2⟩:=info_parts info_ser
 have hl':(L.length:Int)≤1000000:=by omega
 have HQ:=Lib.hid hQ
 clear hQ
 go_enter Tryz.func24,Tryz.ntmps24
 go_wp2
 go_loopw [5,10] (fun v i wr=>∃(k:Nat) (M:List Sq),k≤L.length∧i= .int .i64 k∧Gr w wr∧wr.ownsRow w.heap.size 34 5 v M.length (scells M)∧M.length≤k∧Hid (M=(L.take k).filter p)) (fun _ i _=>L.length-(intOf i).toNat)
 case atStart=>exact ⟨0,[],Nat.zero_le _,rfl,Gr.refl _,World.ownsRow_nil _ _ _ _,Nat.le_refl _,Lib.hid rfl⟩
 case round=>
  obtain ⟨k,M,hk,rfl,hgr,hown,hMk,HM⟩:=hrel
  by_cases hlt:k<L.length
  ·
   obtain ⟨x,hx⟩:∃x,L[k]=x:=⟨_,rfl⟩
   obtain ⟨ad,rfl,hb,hx0,hx1,hx2,hx3,hx4⟩:=(hr.gr hgr).at hlt
   rw[hx] at hx0 hx1 hx2 hx3 hx4
   have HT:Hid ((L.take (k+1)).filter p=M++[x].filter p):=Lib.hid (by rw[List.take_succ_eq_append_getElem hlt,List.filter_append,HM.out,hx])
   have Q:=HQ.out x (by rw[←hx];exact List.getElem_mem hlt)
   clear hx HM
   cases hp:p x
   ·
    have HT2:Hid (M=(L.take (k+1)).filter p):=Lib.hid (by rw[HT.out];simp[hp])
    simp only[hp] at Q
    clear HT hp
    go_wp2_with fail
    refine (Q _ (Gr.alloc hgr _)).mono ?_;rintro e w5 ⟨rfl,hg⟩
    have gw5:=Gr.trans (Gr.alloc hgr _) hg
    have hown5:=own_gr hown (Gr.trans (Gr.alloc (Gr.refl wr) _) hg)
    clear hx0 hx1 hx2 hx3 hx4 hg hown
    go_wp2
    go_roundw
    case rel=>exact ⟨k+1,M,by omega,by go_num,gw5,hown5,by omega,HT2⟩
    case measure=>simp[intOf];omega
   ·
    have HT2:Hid (M++[x]=(L.take (k+1)).filter p):=Lib.hid (by rw[HT.out];simp[hp])
    simp only[hp] at Q
    clear HT hp
    go_wp2_with fail
    refine (Q _ (Gr.alloc hgr _)).mono ?_;rintro e w5 ⟨rfl,hg⟩
    have hbox:=Gr.trans (Gr.alloc (Gr.refl wr) _) hg
    have gw5:=Gr.trans hgr hbox
    have hown5:=own_gr hown hbox
    have q0:w5.cell? ⟨wr.heap.size,0,none⟩=some (.string x.s.name):=(hg.cell (p:=⟨wr.heap.size,0,none⟩) (by simp)).trans (by go_simp)
    have q1:w5.cell? ⟨wr.heap.size,1,none⟩=some (.int .i64 x.s.start):=(hg.cell (p:=⟨wr.heap.size,1,none⟩) (by simp)).trans (by go_simp)
    have q2:w5.cell? ⟨wr.heap.size,2,none⟩=some (.int .i64 x.s.step):=(hg.cell (p:=⟨wr.heap.size,2,none⟩) (by simp)).trans (by go_simp)
    have q3:w5.cell? ⟨wr.heap.size,3,none⟩=some (.slice x.A x.s.vals.length x.c):=(hg.cell (p:=⟨wr.heap.size,3,none⟩) (by simp)).trans (by go_simp)
    have q4:w5.cell? ⟨wr.heap.size,4,none⟩=some (.int .i64 x.s.cons):=(hg.cell (p:=⟨wr.heap.size,4,none⟩) (by simp)).trans (by go_simp)
    have zz:wr.heap.size<w5.heap.size:=by have:=hg.size;simp at this;omega
    have hrx:=Rl.new (W:=w5) rfl 34 [x]
    have hv0:=hown5.alloc (.cells (scells [x]).toArray 34)
    have hvl:=hown5.lt
    have z5:=gw5.size
    clear hg hx0 hx1 hx2 hx3 hx4 hown hbox
    go_wp2_with
     (
      at_builtin
      refine wpList_append_rd rfl (.tmp 17) (.tmp 19) 22 rfl w.heap.size 34 i0 _ 5 64 Tryz.underlying22 hi0 hz0 hz1 hz2 rfl (by decide) _ M.length _ rfl hv0 (some ⟨w5.heap.size,0,none⟩) 1 _ (scells [x]) rfl hrx (scells_one _) (by unfold maxLen;omega) (by omega) (by simp;omega) ?_
      intro v' w7 hown7 hgr7 hat7)
    have hg7:Gr w w7:=Gr.grown (Gr.alloc gw5 _) hgr7 (fun j hj=>(hvl j hj).1)
    have hown8:w7.ownsRow w.heap.size 34 5 v' (M++[x]).length (scells (M++[x])):=by rw[scells_append,List.length_append];exact hown7
    clear hv0 hvl hgr7 hat7 hrx hown5 hown7 q0 q1 q2 q3 q4
    go_roundw
    case rel=>exact ⟨k+1,M++[x],by omega,by go_num,hg7,hown8,by simp;omega,HT2⟩
    case measure=>simp[intOf];omega
  ·
   have hkk:k=L.length:=by omega
   subst hkk
   obtain ⟨A',c',hvv⟩:=own_form hown
   subst hvv
   have hcap:=own_cap hown
   have hRl:Rl wr A' M:=Rd.own hown
   have HM2:Hid (M=L.filter p):=Lib.hid (by rw[HM.out,List.take_length])
   clear HM hown
   go_wp2
   go_ret
   exact ⟨A',c',ret_slice (congrArg List.length HM2.out),by rw[←HM2.out];exact hcap,by rw[←HM2.out];exact hRl,hgr⟩
theorem thosea_any (c0 c1:Value) (p:Sq→Bool) (A:Option Addr) (c:Nat) (L:List Sq) (w:World) (hl:L.length≤1000000) (hr:Rl w A L)
  (hQ:∀x∈L,∀W,Gr w W→Calls Tryz.prog 56 #[.agg #[.string x.s.name, .int .i64 x.s.start, .int .i64 x.s.step, .slice x.A x.s.vals.length x.c, .int .i64 x.s.cons],c0,c1] W fun e w'=>e= .returned (.bool (p x))∧Gr W w') :
  Calls Tryz.prog 24 #[.slice A L.length c, .func (.func 56) #[] #[c0,c1]] w (RetL (L.filter p) w):=by
 obtain ⟨i0,hi0,hz0,hz1,hz2⟩:=info_parts info_ser
 have hl':(L.length:Int)≤1000000:=by omega
 have HQ:=Lib.hid hQ
 clear hQ
 go_enter Tryz.func24,Tryz.ntmps24
 go_wp2
 go_loopw [5,10] (fun v i wr=>∃(k:Nat) (M:List Sq),k≤L.length∧i= .int .i64 k∧Gr w wr∧wr.ownsRow w.heap.size 34 5 v M.length (scells M)∧M.length≤k∧Hid (M=(L.take k).filter p)) (fun _ i _=>L.length-(intOf i).toNat)
 case atStart=>exact ⟨0,[],Nat.zero_le _,rfl,Gr.refl _,World.ownsRow_nil _ _ _ _,Nat.le_refl _,Lib.hid rfl⟩
 case round=>
  obtain ⟨k,M,hk,rfl,hgr,hown,hMk,HM⟩:=hrel
  by_cases hlt:k<L.length
  ·
   obtain ⟨x,hx⟩:∃x,L[k]=x:=⟨_,rfl⟩
   obtain ⟨ad,rfl,hb,hx0,hx1,hx2,hx3,hx4⟩:=(hr.gr hgr).at hlt
   rw[hx] at hx0 hx1 hx2 hx3 hx4
   have HT:Hid ((L.take (k+1)).filter p=M++[x].filter p):=Lib.hid (by rw[List.take_succ_eq_append_getElem hlt,List.filter_append,HM.out,hx])
   have Q:=HQ.out x (by rw[←hx];exact List.getElem_mem hlt)
   clear hx HM
   cases hp:p x
   ·
    have HT2:Hid (M=(L.take (k+1)).filter p):=Lib.hid (by rw[HT.out];simp[hp])
    simp only[hp] at Q
    clear HT hp
    go_wp2_with fail
    refine (Q _ (Gr.alloc hgr _)).mono ?_;rintro e w5 ⟨rfl,hg⟩
    have gw5:=Gr.trans (Gr.alloc hgr _) hg
    have hown5:=own_gr hown (Gr.trans (Gr.alloc (Gr.refl wr) _) hg)
    clear hx0 hx1 hx2 hx3 hx4 hg hown
    go_wp2
    go_roundw
    case rel=>exact ⟨k+1,M,by omega,by go_num,gw5,hown5,by omega,HT2⟩
    case measure=>simp[intOf];omega
   ·
    have HT2:Hid (M++[x]=(L.take (k+1)).filter p):=Lib.hid (by rw[HT.out];simp[hp])
    simp only[hp] at Q
    clear HT hp
    go_wp2_with fail
    refine (Q _ (Gr.alloc hgr _)).mono ?_;rintro e w5 ⟨rfl,hg⟩
    have hbox:=Gr.trans (Gr.alloc (Gr.refl wr) _) hg
    have gw5:=Gr.trans hgr hbox
    have hown5:=own_gr hown hbox
    have q0:w5.cell? ⟨wr.heap.size,0,none⟩=some (.string x.s.name):=(hg.cell (p:=⟨wr.heap.size,0,none⟩) (by simp)).trans (by go_simp)
    have q1:w5.cell? ⟨wr.heap.size,1,none⟩=some (.int .i64 x.s.start):=(hg.cell (p:=⟨wr.heap.size,1,none⟩) (by simp)).trans (by go_simp)
    have q2:w5.cell? ⟨wr.heap.size,2,none⟩=some (.int .i64 x.s.step):=(hg.cell (p:=⟨wr.heap.size,2,none⟩) (by simp)).trans (by go_simp)
    have q3:w5.cell? ⟨wr.heap.size,3,none⟩=some (.slice x.A x.s.vals.length x.c):=(hg.cell (p:=⟨wr.heap.size,3,none⟩) (by simp)).trans (by go_simp)
    have q4:w5.cell? ⟨wr.heap.size,4,none⟩=some (.int .i64 x.s.cons):=(hg.cell (p:=⟨wr.heap.size,4,none⟩) (by simp)).trans (by go_simp)
    have zz:wr.heap.size<w5.heap.size:=by have:=hg.size;simp at this;omega
    have hrx:=Rl.new (W:=w5) rfl 34 [x]
    have hv0:=hown5.alloc (.cells (scells [x]).toArray 34)
    have hvl:=hown5.lt
    have z5:=gw5.size
    clear hg hx0 hx1 hx2 hx3 hx4 hown hbox
    go_wp2_with
     (
      at_builtin
      refine wpList_append_rd rfl (.tmp 17) (.tmp 19) 22 rfl w.heap.size 34 i0 _ 5 64 Tryz.underlying22 hi0 hz0 hz1 hz2 rfl (by decide) _ M.length _ rfl hv0 (some ⟨w5.heap.size,0,none⟩) 1 _ (scells [x]) rfl hrx (scells_one _) (by unfold maxLen;omega) (by omega) (by simp;omega) ?_
      intro v' w7 hown7 hgr7 hat7)
    have hg7:Gr w w7:=Gr.grown (Gr.alloc gw5 _) hgr7 (fun j hj=>(hvl j hj).1)
    have hown8:w7.ownsRow w.heap.size 34 5 v' (M++[x]).length (scells (M++[x])):=by rw[scells_append,List.length_append];exact hown7
    clear hv0 hvl hgr7 hat7 hrx hown5 hown7 q0 q1 q2 q3 q4
    go_roundw
    case rel=>exact ⟨k+1,M++[x],by omega,by go_num,hg7,hown8,by simp;omega,HT2⟩
    case measure=>simp[intOf];omega
  ·
   have hkk:k=L.length:=by omega
   subst hkk
   obtain ⟨A',c',hvv⟩:=own_form hown
   subst hvv
   have hcap:=own_cap hown
   have hRl:Rl wr A' M:=Rd.own hown
   have HM2:Hid (M=L.filter p):=Lib.hid (by rw[HM.out,List.take_length])
   clear HM hown
   go_wp2
   go_ret
   exact ⟨A',c',ret_slice (congrArg List.length HM2.out),by rw[←HM2.out];exact hcap,by rw[←HM2.out];exact hRl,hgr⟩
theorem thoseb_any (c0 c1:Value) (p:Sq→Bool) (A:Option Addr) (c:Nat) (L:List Sq) (w:World) (hl:L.length≤1000000) (hr:Rl w A L)
  (hQ:∀x∈L,∀W,Gr w W→Calls Tryz.prog 58 #[.agg #[.string x.s.name, .int .i64 x.s.start, .int .i64 x.s.step, .slice x.A x.s.vals.length x.c, .int .i64 x.s.cons],c0,c1] W fun e w'=>e= .returned (.bool (p x))∧Gr W w') :
  Calls Tryz.prog 24 #[.slice A L.length c, .func (.func 58) #[] #[c0,c1]] w (RetL (L.filter p) w):=by
 obtain ⟨i0,hi0,hz0,hz1,hz2⟩:=info_parts info_ser
 have hl':(L.length:Int)≤1000000:=by omega
 have HQ:=Lib.hid hQ
 clear hQ
 go_enter Tryz.func24,Tryz.ntmps24
 go_wp2
 go_loopw [5,10] (fun v i wr=>∃(k:Nat) (M:List Sq),k≤L.length∧i= .int .i64 k∧Gr w wr∧wr.ownsRow w.heap.size 34 5 v M.length (scells M)∧M.length≤k∧Hid (M=(L.take k).filter p)) (fun _ i _=>L.length-(intOf i).toNat)
 case atStart=>exact ⟨0,[],Nat.zero_le _,rfl,Gr.refl _,World.ownsRow_nil _ _ _ _,Nat.le_refl _,Lib.hid rfl⟩
 case round=>
  obtain ⟨k,M,hk,rfl,hgr,hown,hMk,HM⟩:=hrel
  by_cases hlt:k<L.length
  ·
   obtain ⟨x,hx⟩:∃x,L[k]=x:=⟨_,rfl⟩
   obtain ⟨ad,rfl,hb,hx0,hx1,hx2,hx3,hx4⟩:=(hr.gr hgr).at hlt
   rw[hx] at hx0 hx1 hx2 hx3 hx4
   have HT:Hid ((L.take (k+1)).filter p=M++[x].filter p):=Lib.hid (by rw[List.take_succ_eq_append_getElem hlt,List.filter_append,HM.out,hx])
   have Q:=HQ.out x (by rw[←hx];exact List.getElem_mem hlt)
   clear hx HM
   cases hp:p x
   ·
    have HT2:Hid (M=(L.take (k+1)).filter p):=Lib.hid (by rw[HT.out];simp[hp])
    simp only[hp] at Q
    clear HT hp
    go_wp2_with fail
    refine (Q _ (Gr.alloc hgr _)).mono ?_;rintro e w5 ⟨rfl,hg⟩
    have gw5:=Gr.trans (Gr.alloc hgr _) hg
    have hown5:=own_gr hown (Gr.trans (Gr.alloc (Gr.refl wr) _) hg)
    clear hx0 hx1 hx2 hx3 hx4 hg hown
    go_wp2
    go_roundw
    case rel=>exact ⟨k+1,M,by omega,by go_num,gw5,hown5,by omega,HT2⟩
    case measure=>simp[intOf];omega
   ·
    have HT2:Hid (M++[x]=(L.take (k+1)).filter p):=Lib.hid (by rw[HT.out];simp[hp])
    simp only[hp] at Q
    clear HT hp
    go_wp2_with fail
    refine (Q _ (Gr.alloc hgr _)).mono ?_;rintro e w5 ⟨rfl,hg⟩
    have hbox:=Gr.trans (Gr.alloc (Gr.refl wr) _) hg
    have gw5:=Gr.trans hgr hbox
    have hown5:=own_gr hown hbox
    have q0:w5.cell? ⟨wr.heap.size,0,none⟩=some (.string x.s.name):=(hg.cell (p:=⟨wr.heap.size,0,none⟩) (by simp)).trans (by go_simp)
    have q1:w5.cell? ⟨wr.heap.size,1,none⟩=some (.int .i64 x.s.start):=(hg.cell (p:=⟨wr.heap.size,1,none⟩) (by simp)).trans (by go_simp)
    have q2:w5.cell? ⟨wr.heap.size,2,none⟩=some (.int .i64 x.s.step):=(hg.cell (p:=⟨wr.heap.size,2,none⟩) (by simp)).trans (by go_simp)
    have q3:w5.cell? ⟨wr.heap.size,3,none⟩=some (.slice x.A x.s.vals.length x.c):=(hg.cell (p:=⟨wr.heap.size,3,none⟩) (by simp)).trans (by go_simp)
    have q4:w5.cell? ⟨wr.heap.size,4,none⟩=some (.int .i64 x.s.cons):=(hg.cell (p:=⟨wr.heap.size,4,none⟩) (by simp)).trans (by go_simp)
    have zz:wr.heap.size<w5.heap.size:=by have:=hg.size;simp at this;omega
    have hrx:=Rl.new (W:=w5) rfl 34 [x]
    have hv0:=hown5.alloc (.cells (scells [x]).toArray 34)
    have hvl:=hown5.lt
    have z5:=gw5.size
    clear hg hx0 hx1 hx2 hx3 hx4 hown hbox
    go_wp2_with
     (
      at_builtin
      refine wpList_append_rd rfl (.tmp 17) (.tmp 19) 22 rfl w.heap.size 34 i0 _ 5 64 Tryz.underlying22 hi0 hz0 hz1 hz2 rfl (by decide) _ M.length _ rfl hv0 (some ⟨w5.heap.size,0,none⟩) 1 _ (scells [x]) rfl hrx (scells_one _) (by unfold maxLen;omega) (by omega) (by simp;omega) ?_
      intro v' w7 hown7 hgr7 hat7)
    have hg7:Gr w w7:=Gr.grown (Gr.alloc gw5 _) hgr7 (fun j hj=>(hvl j hj).1)
    have hown8:w7.ownsRow w.heap.size 34 5 v' (M++[x]).length (scells (M++[x])):=by rw[scells_append,List.length_append];exact hown7
    clear hv0 hvl hgr7 hat7 hrx hown5 hown7 q0 q1 q2 q3 q4
    go_roundw
    case rel=>exact ⟨k+1,M++[x],by omega,by go_num,hg7,hown8,by simp;omega,HT2⟩
    case measure=>simp[intOf];omega
  ·
   have hkk:k=L.length:=by omega
   subst hkk
   obtain ⟨A',c',hvv⟩:=own_form hown
   subst hvv
   have hcap:=own_cap hown
   have hRl:Rl wr A' M:=Rd.own hown
   have HM2:Hid (M=L.filter p):=Lib.hid (by rw[HM.out,List.take_length])
   clear HM hown
   go_wp2
   go_ret
   exact ⟨A',c',ret_slice (congrArg List.length HM2.out),by rw[←HM2.out];exact hcap,by rw[←HM2.out];exact hRl,hgr⟩
section
open Go.RowKit Go.Sort
theorem posR_take {α:Type} (lt:α→α→Bool) (x:α) (A B:List α):∀k,k≤A.length→posR lt x (A++B) k=posR lt x A k
 | 0,_=>rfl
 | k+1,h=>by
  unfold posR
  rw[List.getElem?_append_left (by omega)]
  cases A[k]? with
  | none=>rfl
  | some y=>simp only;rw[posR_take lt x A B k (by omega)]
section
variable {α:Type} [Inhabited α]
theorem arr_at {d:Array α} {A B:List α} {x:α} (h:d.toList=A++x::B):d[A.length]! = x:=by
 have:d[A.length]?=some x:=by
  rw[←Array.getElem?_toList,h,List.getElem?_append_right (Nat.le_refl _)];simp
 rw[getElem!_def,this]
theorem arr_swp {d:Array α} {A B:List α} {x y:α} (h:d.toList=A++y::x::B):(swp d (A.length+1) A.length).toList=A++x::y::B:=by
 have h0:d[A.length]! = y:=arr_at h
 have h1:d[A.length+1]! = x:=by
  have:=arr_at (d:=d) (A:=A++[y]) (B:=B) (x:=x) (by rw[h];simp)
  simpa using this
 unfold swp
 rw[h0,h1,Array.toList_setIfInBounds,Array.toList_setIfInBounds,h]
 simp[List.set_append]
theorem insInner_eq (lt:α→α→Bool) (x:α):∀(j:Nat) (A B:List α) (d:Array α),A.length=j→d.toList=A++x::B→
  (insInner lt 0 j d).toList=A.take (posR lt x A j)++x::(A.drop (posR lt x A j)++B)
 | 0,A,B,d,hA,hd=>by
  have:A=[]:=List.eq_nil_of_length_eq_zero hA
  subst this
  simpa [insInner,posR] using hd
 | j+1,A,B,d,hA,hd=>by
  rcases List.eq_nil_or_concat A with rfl|⟨A',y,rfl⟩
  ·
   simp at hA
  ·
   rw[List.concat_eq_append] at hA hd ⊢
   have hA':A'.length=j:=by simpa using hA
   have hd':d.toList=A'++y::x::B:=by rw[hd];simp
   have e0:d[j]! = y:=by rw[←hA'];exact arr_at hd'
   have e1:d[j+1]! = x:=by
    have:=arr_at (d:=d) (A:=A'++[y]) (B:=B) (x:=x) hd
    rw[←hA'];simpa using this
   have ey:(A'++[y])[j]?=some y:=by rw[←hA'];simp
   unfold insInner posR
   rw[e0,e1,ey]
   simp only[Nat.succ_pos,Nat.zero_lt_succ,decide_true,Bool.true_and,gt_iff_lt]
   cases hlt:lt x y
   ·
    simp only[Bool.false_eq_true,if_false,cond_false]
    have hl:j+1=(A'++[y]).length:=by simpa using hA.symm
    rw[hd,hl,List.take_length,List.drop_length]
    simp
   ·
    simp only[if_true,cond_true]
    have hs:=arr_swp hd'
    rw[hA'] at hs
    rw[insInner_eq lt x j A' (y::B) _ hA' hs,posR_take lt x A' [y] j (by omega)]
    have hp:=posR_le lt x A' j
    rw[List.take_append_of_le_length (by omega),List.drop_append_of_le_length (by omega)]
    simp
theorem insOuter_eq (lt:α→α→Bool):∀(m i:Nat) (A B:List α) (d:Array α),A.length=i→B.length=m→d.toList=A++B→
  (insOuter lt 0 (i+m) i d).toList=B.foldl (insR lt) A
 | 0,i,A,B,d,hA,hB,hd=>by
  have:B=[]:=List.eq_nil_of_length_eq_zero hB
  subst this
  unfold insOuter
  rw[if_neg (by omega)]
  simpa using hd
 | m+1,i,A,B,d,hA,hB,hd=>by
  match B,hB with
  | x::B,hB=>
   have hB':B.length=m:=by simpa using hB
   unfold insOuter
   rw[if_pos (by omega)]
   have h1:=insInner_eq lt x i A B d hA hd
   have h2:(insInner lt 0 i d).toList=insR lt A x++B:=by
    rw[h1];unfold insR;rw[hA];simp
   have e:i+(m+1)=(i+1)+m:=by omega
   rw[e,insOuter_eq lt m (i+1) (insR lt A x) B _ (by rw[insR_len,hA]) hB' h2]
   rfl
theorem ins_sort (lt:α→α→Bool) (d:Array α):(insertionSort lt d 0 d.size).toList=sortR lt d.toList:=by
 unfold insertionSort sortR
 match h:d.toList with
 | []=>
  have hs:d.size=0:=by rw[←Array.length_toList,h];rfl
  unfold insOuter
  rw[hs,if_neg (by omega),h]
  rfl
 | x::B=>
  have hs:d.size=(0+1)+B.length:=by rw[←Array.length_toList,h];simp;omega
  rw[hs,insOuter_eq lt B.length (0+1) [x] B d rfl rfl h]
  rfl
theorem ins_none (lt:α→α→Bool) (d:Array α) (n:Nat):insertionSort lt d n n=d:=by
 unfold insertionSort insOuter
 rw[if_neg (by omega)]
end
end
structure GX (R:Nat) (w w':World):Prop where
 os:w'.os=w.os
 tape:w'.tape=w.tape
 output:w'.output=w.output
 size:w.heap.size≤w'.heap.size
 block:∀k,k<w.heap.size→k≠R→w'.heap[k]?=w.heap[k]?
theorem GX.refl (R:Nat) (w:World):GX R w w:=⟨rfl,rfl,rfl,Nat.le_refl _,fun _ _ _=>rfl⟩
theorem GX.trans {R:Nat} {a b c:World} (h:GX R a b) (k:GX R b c):GX R a c:=
 ⟨k.os.trans h.os,k.tape.trans h.tape,k.output.trans h.output,Nat.le_trans h.size k.size,fun i hi hn=>(k.block i (Nat.lt_of_lt_of_le hi h.size) hn).trans (h.block i hi hn)⟩
theorem GX.of_gr {R:Nat} {w w':World} (h:Gr w w'):GX R w w':=⟨h.os,h.tape,h.output,h.size,fun k hk _=>Below.block h k hk⟩
theorem GX.alloc {R:Nat} {a w:World} (h:GX R a w) (o:Obj):GX R a (w.alloc o):=h.trans (GX.of_gr (Gr.alloc (Gr.refl w) o))
theorem GX.drew {R:Nat} {a w:World} (h:GX R a w):GX R a w.drew:=h.trans (GX.of_gr (Gr.drew (Gr.refl w)))
theorem GX.drewN {R:Nat} {a w:World} (h:GX R a w) (n:Nat):GX R a (w.drewN n):=⟨h.os,h.tape,h.output,h.size,h.block⟩
theorem GX.setCell {R:Nat} {a w:World} (h:GX R a w) {p:Addr} (hp:p.block=R∨a.heap.size≤p.block) (u:Value):GX R a (w.setCell p u):=
 ⟨h.os,h.tape,h.output,Nat.le_trans h.size (by simp[World.setCell]),fun k hk hn=>(Below.heap_setCell _ _ _ _ (by omega)).trans (h.block k hk hn)⟩
theorem GX.gr {R:Nat} {a w w':World} (h:Gr a w) (g:GX R w w') (hR:a.heap.size≤R):Gr a w':=
 ⟨g.os.trans h.os,g.tape.trans h.tape,g.output.trans h.output,Nat.le_trans h.size g.size,fun k hk=>(g.block k (Nat.lt_of_lt_of_le hk h.size) (by omega)).trans (h.block k hk)⟩
theorem GX.cell {R:Nat} {w w':World} (h:GX R w w') {p:Addr} (hp:p.block<w.heap.size) (hn:p.block≠R):w'.cell? p=w.cell? p:=World.cell?_of_block (h.block _ hp hn)
theorem GX.frozen {R:Nat} {w w':World} (h:GX R w w') {p:Addr} (hp:p.block<w.heap.size) (hn:p.block≠R):w'.frozen? p=w.frozen? p:=World.frozen?_of_block (h.block _ hp hn)
theorem GX.cells {R:Nat} {W w1:World} (hb:GX R W w1):(∀b o,b<W.heap.size→b≠R→w1.cell? ⟨b,o,none⟩=W.cell? ⟨b,o,none⟩)∧(∀b o,b<W.heap.size→b≠R→w1.frozen? ⟨b,o,none⟩=W.frozen? ⟨b,o,none⟩):=
 ⟨fun b o h hn=>hb.cell (p:=⟨b,o,none⟩) h hn,fun b o h hn=>hb.frozen (p:=⟨b,o,none⟩) h hn⟩
end Go.Proofs.YtnphdacibageiaaGreat
