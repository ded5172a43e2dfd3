import Derived.Test.YtoncapkmaeghfaaGreatProg
import Derived.Test.YtoncapkmaeghfaaGreatRunFxBase
import Derived.Deep.RegionHeld3
import Derived.Lib.Hide
import Derived.Outline
import Derived.Laws.Bits64b
import Derived.Lib.BitFns
set_option linter.all false
set_option maxRecDepth 1000000
set_option maxHeartbeats 12800000
namespace Go.Proofs.YtoncapkmaeghfaaGreat
open Go.RowKit
theorem is_any (ok:Bool) (n:Int) (w:World) :
  Calls Tryz.prog 103 #[.agg #[.bool ok, .int .i64 n]] w fun e w'=>e= .returned (.bool (isB ⟨ok,n⟩))∧Gr w w':=by
 cases ok <;>
 ·
  go_enter Tryz.func103,Tryz.ntmps103
  go_wp2
  all_goals (go_ret;exact ⟨by simp[isB, *]<;>omega,gq⟩)
theorem ris_any (ok:Bool) (n:Int) (w:World) :
  Calls Tryz.prog 86 #[.agg #[.bool ok, .int .i64 n]] w fun e w'=>e= .returned (.bool (isB ⟨ok,n⟩))∧Gr w w':=by
 cases ok <;>
 ·
  go_enter Tryz.func86,Tryz.ntmps86
  go_wp2
  all_goals (go_ret;exact ⟨by simp[isB, *]<;>omega,gq⟩)
theorem of_any (n:Int) (w:World) :
  Calls Tryz.prog 89 #[.int .i64 n] w fun e w'=>e= .returned (.agg #[.bool (ofV n).ok, .int .i64 (ofV n).n])∧Gr w w':=by
 go_enter Tryz.func89,Tryz.ntmps89
 go_wp2_with (go_at_call 103;refine (is_any true n _).mono ?_;rintro e w1 ⟨rfl,hg⟩;obtain ⟨hc,hf⟩:=hg.cells;have hz:=hg.size)
 all_goals
  have q0:w1.cell? ⟨w.heap.size,0,none⟩=some (.bool false):=by go_simp
  have q1:w1.cell? ⟨w.heap.size,1,none⟩=some (.int .i64 0):=by go_simp
  exact bodyPost_ret (v:= .agg #[.bool (ofV n).ok, .int .i64 (ofV n).n]) (by simp[results,Tryz.results89,go_sem,ofV, *]) rfl ⟨rfl,gq⟩
theorem rof_any (n:Int) (w:World) :
  Calls Tryz.prog 98 #[.int .i64 n] w fun e w'=>e= .returned (.agg #[.bool (ofV n).ok, .int .i64 (ofV n).n])∧Gr w w':=by
 by_cases h1:n < -4611686018427387904
 ·
  have hv:=ofV_lo h1
  rw[hv];clear hv
  go_enter Tryz.func98,Tryz.ntmps98
  go_wp2
  exact bodyPost_ret (v:= .agg #[.bool false, .int .i64 0]) (by simp[results,Tryz.results98,go_sem]) rfl ⟨rfl,gq⟩
 ·
  by_cases h2:4611686018427387904<n
  ·
   have hv:=ofV_hi h2
   rw[hv];clear hv
   go_enter Tryz.func98,Tryz.ntmps98
   go_wp2
   exact bodyPost_ret (v:= .agg #[.bool false, .int .i64 0]) (by simp[results,Tryz.results98,go_sem]) rfl ⟨rfl,gq⟩
  ·
   have hv:=ofV_in (n:=n) (by omega) (by omega)
   rw[hv];clear hv
   go_enter Tryz.func98,Tryz.ntmps98
   go_wp2
   exact bodyPost_ret (v:= .agg #[.bool true, .int .i64 n]) (by simp[results,Tryz.results98,go_sem]) rfl ⟨rfl,gq⟩
theorem int_any (n:Int) (w:World) :
  Calls Tryz.prog 126 #[.int .i64 n] w fun e w'=>e= .returned (.agg #[.bool (intV n).ok, .int .i64 (intV n).n])∧Gr w w':=by
 by_cases h1:n < -4611686018427
 ·
  have hv:intV n=⟨false,0⟩:=by
   have:¬ -4611686018427≤n:=by omega
   simp[intV,this]
  rw[hv];clear hv
  go_enter Tryz.func126,Tryz.ntmps126
  go_wp2
  exact bodyPost_ret (v:= .agg #[.bool false, .int .i64 0]) (by simp[results,Tryz.results126,go_sem]) rfl ⟨rfl,gq⟩
 ·
  by_cases h2:4611686018427<n
  ·
   have hv:intV n=⟨false,0⟩:=by
    have:¬n≤4611686018427:=by omega
    simp[intV,this]
   rw[hv];clear hv
   go_enter Tryz.func126,Tryz.ntmps126
   go_wp2
   exact bodyPost_ret (v:= .agg #[.bool false, .int .i64 0]) (by simp[results,Tryz.results126,go_sem]) rfl ⟨rfl,gq⟩
  ·
   have hv:intV n=ofV (n*1000000):=by
    have a1: -4611686018427≤n:=by omega
    have a2:n≤4611686018427:=by omega
    simp[intV,a1,a2]
   rw[hv];clear hv
   go_enter Tryz.func126,Tryz.ntmps126
   go_wp2_with (go_at_call 89;refine (of_any (n*1000000) _).mono ?_;rintro e w1 ⟨rfl,hg⟩;obtain ⟨hc,hf⟩:=hg.cells;have hz:=hg.size)
   have q0:w1.cell? ⟨w.heap.size,0,none⟩=some (.bool false):=by go_simp
   have q1:w1.cell? ⟨w.heap.size,1,none⟩=some (.int .i64 0):=by go_simp
   exact bodyPost_ret (v:= .agg #[.bool (ofV (n*1000000)).ok, .int .i64 (ofV (n*1000000)).n]) (by simp[results,Tryz.results126,go_sem, *]) rfl ⟨rfl,gq⟩
theorem rint_any (n:Int) (w:World) :
  Calls Tryz.prog 120 #[.int .i64 n] w fun e w'=>e= .returned (.agg #[.bool (intV n).ok, .int .i64 (intV n).n])∧Gr w w':=by
 by_cases h1:n < -4611686018427
 ·
  have hv:intV n=⟨false,0⟩:=by
   have:¬ -4611686018427≤n:=by omega
   simp[intV,this]
  rw[hv];clear hv
  go_enter Tryz.func120,Tryz.ntmps120
  go_wp2
  exact bodyPost_ret (v:= .agg #[.bool false, .int .i64 0]) (by simp[results,Tryz.results120,go_sem]) rfl ⟨rfl,gq⟩
 ·
  by_cases h2:4611686018427<n
  ·
   have hv:intV n=⟨false,0⟩:=by
    have:¬n≤4611686018427:=by omega
    simp[intV,this]
   rw[hv];clear hv
   go_enter Tryz.func120,Tryz.ntmps120
   go_wp2
   exact bodyPost_ret (v:= .agg #[.bool false, .int .i64 0]) (by simp[results,Tryz.results120,go_sem]) rfl ⟨rfl,gq⟩
  ·
   have hv:intV n=ofV (n*1000000):=by
    have a1: -4611686018427≤n:=by omega
    have a2:n≤4611686018427:=by omega
    simp[intV,a1,a2]
   rw[hv];clear hv
   go_enter Tryz.func120,Tryz.ntmps120
   go_wp2_with (go_at_call 98;refine (rof_any (n*1000000) _).mono ?_;rintro e w1 ⟨rfl,hg⟩;obtain ⟨hc,hf⟩:=hg.cells;have hz:=hg.size)
   have q0:w1.cell? ⟨w.heap.size,0,none⟩=some (.bool false):=by go_simp
   have q1:w1.cell? ⟨w.heap.size,1,none⟩=some (.int .i64 0):=by go_simp
   exact bodyPost_ret (v:= .agg #[.bool (ofV (n*1000000)).ok, .int .i64 (ofV (n*1000000)).n]) (by simp[results,Tryz.results120,go_sem, *]) rfl ⟨rfl,gq⟩
theorem kn_any (a:Vl) (w:World) :
  Calls Tryz.prog 132 #[.agg #[.bool a.ok, .int .i64 a.n]] w fun e w'=>e= .returned (.bool (knB a))∧Gr w w':=by
 obtain ⟨ok,n⟩:=a
 cases ok
 ·
  go_enter Tryz.func132,Tryz.ntmps132
  go_wp2
  go_ret
  exact ⟨by simp[knB],gq⟩
 ·
  go_enter Tryz.func132,Tryz.ntmps132
  go_wp2_with (go_at_call 103;refine (is_any _ _ _).mono ?_;rintro e w1 ⟨rfl,hg⟩;obtain ⟨hc,hf⟩:=hg.cells;have hz:=hg.size)
  go_ret
  exact ⟨by simp[knB],gq⟩
theorem rkn_any (a:Vl) (w:World) :
  Calls Tryz.prog 117 #[.agg #[.bool a.ok, .int .i64 a.n]] w fun e w'=>e= .returned (.bool (knB a))∧Gr w w':=by
 obtain ⟨ok,n⟩:=a
 cases ok
 ·
  go_enter Tryz.func117,Tryz.ntmps117
  go_wp2
  go_ret
  exact ⟨by simp[knB],gq⟩
 ·
  go_enter Tryz.func117,Tryz.ntmps117
  go_wp2_with (go_at_call 86;refine (ris_any _ _ _).mono ?_;rintro e w1 ⟨rfl,hg⟩;obtain ⟨hc,hf⟩:=hg.cells;have hz:=hg.size)
  go_ret
  exact ⟨by simp[knB],gq⟩
theorem two_any (a b:Vl) (w:World) :
  Calls Tryz.prog 129 #[.agg #[.bool a.ok, .int .i64 a.n], .agg #[.bool b.ok, .int .i64 b.n]] w fun e w'=>e= .returned (.bool (knB a&&knB b))∧Gr w w':=by
 cases ha:knB a
 ·
  go_enter Tryz.func129,Tryz.ntmps129
  go_wp2_with (go_at_call 117;refine (rkn_any a _).mono ?_;rintro e w1 ⟨rfl,hg⟩;obtain ⟨hc,hf⟩:=hg.cells;have hz:=hg.size)
  go_ret
  exact ⟨by simp,gq⟩
 ·
  go_enter Tryz.func129,Tryz.ntmps129
  go_wp2_with fail
  refine (rkn_any a _).mono ?_;rintro e w1 ⟨rfl,hg⟩;obtain ⟨hc,hf⟩:=hg.cells;have hz:=hg.size
  go_wp2_with (go_at_call 117;refine (rkn_any b _).mono ?_;rintro e w1 ⟨rfl,hg⟩;obtain ⟨hc,hf⟩:=hg.cells;have hz:=hg.size)
  go_ret
  exact ⟨by simp,gq⟩
def kn (l:List Vl):List Vl:=l.filter knB
theorem kn_take {l:List Vl} {k:Nat} (h:k<l.length):kn (l.take (k+1))=kn (l.take k)++(if knB l[k]=true then [l[k]] else []):=by
 unfold kn
 rw[List.take_succ_eq_append_getElem h,List.filter_append]
 simp[List.filter_cons]
theorem kn_len (l:List Vl):(kn l).length≤l.length:=List.length_filter_le _ _
theorem kn_take_len (l:List Vl) (k:Nat):(kn (l.take k)).length≤l.length:=Nat.le_trans (kn_len _) (List.length_take_le' k l)
theorem info_val:(Tryz.prog.info? 107).map (fun i=>(i.zero,i.size,i.bytes))=some (some (.agg #[.bool false, .int .i64 0]),2,16):=by kernel_rfl
def RetV (l:List Vl) (w:World) (e:Ending) (w':World):Prop:=∃A c,e= .returned (.slice A l.length c)∧Rv w' A l∧Gr w w'
theorem Rv.new {W:World} {B:Nat} (hB:B=W.heap.size) (T:TypeId) (l:List Vl):Rv (W.alloc (.cells (vcells l).toArray T)) (some ⟨B,0,none⟩) l:=by
 subst hB
 refine ⟨vcells_length l,fun _=>⟨_,rfl,by simp,fun j u hu=>?_⟩⟩
 have e:(⟨W.heap.size,0,none⟩:Addr).add j=⟨W.heap.size,j,none⟩:=by
  unfold Addr.add;split
  ·
   rename_i h;subst h;rfl
  ·
   rw[Nat.zero_add]
 rw[e]
 exact (cell_of_row _ _ _ _ _ _ (heap_alloc_new W _)).trans (by simpa using hu)
theorem own_gr {w w':World} {base:Nat} {e:TypeId} {size n:Nat} {v:Value} {xs:List Value} (h:w.ownsRow base e size v n xs) (g:Gr w w'):w'.ownsRow base e size v n xs:=by
 obtain ⟨h1,⟨hv,h0⟩|⟨g',cap,cur,hv,hb,hh,h2⟩⟩:=h
 ·
  exact ⟨h1, .inl ⟨hv,h0⟩⟩
 ·
  refine ⟨h1, .inr ⟨g',cap,cur,hv,hb,?_,h2⟩⟩
  have hlt:g'<w.heap.size:=by
   rcases Nat.lt_or_ge g' w.heap.size with hlt|hge
   ·
    exact hlt
   ·
    rw[Array.getElem?_eq_none hge] at hh;cases hh
  exact (Below.block g g' hlt).trans hh
theorem known_vals_any (A:Option Addr) (c:Nat) (l:List Vl) (w:World) (hl:l.length≤1000000) (hr:Rv w A l) :
  Calls Tryz.prog 114 #[.slice A l.length c] w (RetV (kn l) w):=by
 have hl':(l.length:Int)≤1000000:=by omega
 obtain ⟨i0,hi,hz0,hz1,hz2⟩:=info_parts info_val
 go_enter Tryz.func114,Tryz.ntmps114
 go_wp2
 go_loopw [3,8] (fun v i wr=>∃k:Nat,k≤l.length∧i= .int .i64 k∧Gr w wr∧wr.ownsRow w.heap.size 107 2 v (kn (l.take k)).length (vcells (kn (l.take k))))
  (fun _ i _=>l.length-(intOf i).toNat)
 case atStart=>exact ⟨0,Nat.zero_le _,rfl,Gr.refl _,World.ownsRow_nil _ _ _ _⟩
 case round=>
  obtain ⟨k,hk,rfl,hgr,hown⟩:=hrel
  by_cases hlt:k<l.length
  ·
   obtain ⟨ad,rfl,hb,hx0,hx1⟩:=(hr.gr hgr).at hlt
   have Ht:=Lib.hid (kn_take hlt)
   have hkl:=kn_take_len l k
   cases hok:l[k].ok
   ·
    have hkn:knB l[k]=false:=by simp[knB,hok]
    rw[hkn] at Ht
    go_wp2
    go_roundw
    case rel=>exact ⟨k+1,by omega,by go_num,gq,by rw[Ht.out];simpa using hown.alloc _⟩
    case measure=>simp[intOf];omega
   ·
    cases hkn:knB l[k]
    ·
     have hib:isB ⟨true,l[k].n⟩=false:=by
      have:knB l[k]=(l[k].ok&&isB ⟨l[k].ok,l[k].n⟩):=rfl
      rw[hok,Bool.true_and] at this;rw[←this];exact hkn
     rw[hkn] at Ht
     go_wp2_with fail
     refine (is_any true l[k].n _).mono ?_;rintro e w1 ⟨rfl,hg⟩;obtain ⟨hc,hf⟩:=hg.cells
     have hown1:=own_gr (hown.alloc _) hg
     clear hkn
     go_wp2
     go_roundw
     case rel=>exact ⟨k+1,by omega,by go_num,gq,by rw[Ht.out];simpa using hown1⟩
     case measure=>simp[intOf];omega
    ·
     have hib:isB ⟨true,l[k].n⟩=true:=by
      have:knB l[k]=(l[k].ok&&isB ⟨l[k].ok,l[k].n⟩):=rfl
      rw[hok,Bool.true_and] at this;rw[←this];exact hkn
     rw[hkn] at Ht
     go_wp2_with fail
     refine (is_any true l[k].n _).mono ?_;rintro e w1 ⟨rfl,hg⟩;obtain ⟨hc,hf⟩:=hg.cells
     have z1:=hg.size
     simp at z1
     have hown1:=own_gr (hown.alloc _) hg
     have hgw1:Gr w w1:=gq
     have z2:=hgw1.size
     have hrx:=Rv.new (W:=w1) rfl 107 [l[k]]
     have hv0:=(hown1.alloc (.cells (vcells [l[k]]).toArray 107))
     have hvl:=hown1.lt
     clear hkn
     go_wp2_with (at_builtin;refine wpList_append_rd rfl (.tmp 18) (.tmp 20) 87 rfl w.heap.size 107 i0 _ 2 16 Tryz.underlying87 hi hz0 hz1 hz2 rfl (by decide) _ _ _ rfl (by rw[←hok];exact hv0) (some ⟨w1.heap.size,0,none⟩) 1 _ (vcells [l[k]]) rfl (by rw[←hok];exact hrx) (vcells_one _) (by unfold maxLen;omega) (by omega) (by simp;omega) ?_;intro v' w2 hown2 hgr2 hat2)
     have hg2:Gr w w2:=Gr.grown (Gr.alloc hgw1 _) hgr2 (fun k hk=>(hvl k hk).1)
     clear hv0 hvl hgr2 hat2 hrx
     go_wp2
     go_roundw
     case rel=>exact ⟨k+1,by omega,by go_num,hg2,by rw[Ht.out];simpa [vcells_append] using hown2⟩
     case measure=>simp[intOf];omega
  ·
   have hkk:k=l.length:=by omega
   subst hkk
   rw[List.take_length] at hown
   obtain ⟨A',c',hv⟩:=own_form hown
   subst hv
   go_wp2
   go_ret
   exact ⟨A',c',rfl,Rd.own hown,hgr⟩
theorem rknown_vals_any (A:Option Addr) (c:Nat) (l:List Vl) (w:World) (hl:l.length≤1000000) (hr:Rv w A l) :
  Calls Tryz.prog 110 #[.slice A l.length c] w (RetV (kn l) w):=by
 have hl':(l.length:Int)≤1000000:=by omega
 obtain ⟨i0,hi,hz0,hz1,hz2⟩:=info_parts info_val
 go_enter Tryz.func110,Tryz.ntmps110
 go_wp2
 go_loopw [3,4] (fun v i wr=>∃k:Nat,k≤l.length∧i= .int .i64 k∧Gr w wr∧wr.ownsRow w.heap.size 107 2 v (kn (l.take k)).length (vcells (kn (l.take k))))
  (fun _ i _=>l.length-(intOf i).toNat)
 case atStart=>exact ⟨0,Nat.zero_le _,rfl,Gr.refl _,World.ownsRow_nil _ _ _ _⟩
 case round=>
  obtain ⟨k,hk,rfl,hgr,hown⟩:=hrel
  by_cases hlt:k<l.length
  ·
   have hra:=hr.gr hgr
   obtain ⟨ad,rfl,hb,hx0,hx1⟩:=hra.at hlt
   have Ht:=Lib.hid (kn_take hlt)
   have hkl:=kn_take_len l k
   cases hkn:knB l[k]
   ·
    rw[hkn] at Ht
    go_wp2_with fail
    refine (rkn_any l[k] _).mono ?_;rintro e w1 ⟨rfl,hg⟩
    have hown1:=own_gr hown hg
    go_wp2
    go_roundw
    case rel=>exact ⟨k+1,by omega,by go_num,gq,by rw[Ht.out];simpa using hown1⟩
    case measure=>simp[intOf];omega
   ·
    rw[hkn] at Ht
    go_wp2_with fail
    refine (rkn_any l[k] _).mono ?_;rintro e w1 ⟨rfl,hg⟩
    have hown1:=own_gr hown hg
    have hgw1:Gr w w1:=gq
    have hy0:=(hg.cell (p:=ad.add (k*2)) (by rw[add_blk];exact hb)).trans hx0
    have hy1:=(hg.cell (p:=⟨(ad.add (k*2)).block,(ad.add (k*2)).off+1,none⟩) (by rw[add_blk];exact hb)).trans hx1
    have z2:=hgw1.size
    have hrx:=Rv.new (W:=w1) rfl 107 [l[k]]
    have hv0:=(hown1.alloc (.cells (vcells [l[k]]).toArray 107))
    have hvl:=hown1.lt
    clear hx0 hx1
    go_wp2_with (at_builtin;refine wpList_append_rd rfl (.tmp 16) (.tmp 21) 87 rfl w.heap.size 107 i0 _ 2 16 Tryz.underlying87 hi hz0 hz1 hz2 rfl (by decide) _ _ _ rfl hv0 (some ⟨w1.heap.size,0,none⟩) 1 _ (vcells [l[k]]) rfl hrx (vcells_one _) (by unfold maxLen;omega) (by omega) (by simp;omega) ?_;intro v' w2 hown2 hgr2 hat2)
    have hg2:Gr w w2:=Gr.grown (Gr.alloc hgw1 _) hgr2 (fun k hk=>(hvl k hk).1)
    clear hv0 hvl hgr2 hat2 hrx
    go_wp2
    go_roundw
    case rel=>exact ⟨k+1,by omega,by go_num,hg2,by rw[Ht.out];simpa [vcells_append] using hown2⟩
    case measure=>simp[intOf];omega
  ·
   have hkk:k=l.length:=by omega
   subst hkk
   rw[List.take_length] at hown
   obtain ⟨A',c',hv⟩:=own_form hown
   subst hv
   go_wp2
   go_ret
   exact ⟨A',c',rfl,Rd.own hown,hgr⟩
theorem sum_any (a b:Vl) (w:World) :
  Calls Tryz.prog 131 #[.agg #[.bool a.ok, .int .i64 a.n], .agg #[.bool b.ok, .int .i64 b.n]] w fun e w'=>e= .returned (.agg #[.bool (sumV a b).ok, .int .i64 (sumV a b).n])∧Gr w w':=by
 cases ha:knB a
 ·
  have hv:sumV a b=⟨false,0⟩:=by simp[sumV,ha]
  rw[hv];clear hv
  go_enter Tryz.func131,Tryz.ntmps131
  go_wp2_with fail
  refine (kn_any a _).mono ?_;rintro e w1 ⟨rfl,hg⟩;obtain ⟨hc,hf⟩:=hg.cells;have hz:=hg.size;(try simp at hz);have z0:w.heap.size<w1.heap.size:=(by omega);have z1:w.heap.size+1<w1.heap.size:=(by omega);have z2:w.heap.size+1+1<w1.heap.size:=(by omega)
  go_wp2
  have q0:w1.cell? ⟨w.heap.size+1+1,0,none⟩=some (.bool false):=by go_simp
  have q1:w1.cell? ⟨w.heap.size+1+1,1,none⟩=some (.int .i64 0):=by go_simp
  exact bodyPost_ret (v:= .agg #[.bool false, .int .i64 0]) (by simp[results,Tryz.results131,go_sem, *]) rfl ⟨rfl,gq⟩
 cases hb:knB b
 ·
  have hv:sumV a b=⟨false,0⟩:=by simp[sumV,hb]
  rw[hv];clear hv
  go_enter Tryz.func131,Tryz.ntmps131
  go_wp2_with fail
  refine (kn_any a _).mono ?_;rintro e w1 ⟨rfl,hg⟩;obtain ⟨hc,hf⟩:=hg.cells;have hz:=hg.size;(try simp at hz);have z0:w.heap.size<w1.heap.size:=(by omega);have z1:w.heap.size+1<w1.heap.size:=(by omega);have z2:w.heap.size+1+1<w1.heap.size:=(by omega)
  go_wp2_with fail
  refine (kn_any b _).mono ?_;rintro e w1 ⟨rfl,hg⟩;obtain ⟨hc,hf⟩:=hg.cells;have hz:=hg.size;(try simp at hz);have z0:w.heap.size<w1.heap.size:=(by omega);have z1:w.heap.size+1<w1.heap.size:=(by omega);have z2:w.heap.size+1+1<w1.heap.size:=(by omega)
  go_wp2
  have q0:w1.cell? ⟨w.heap.size+1+1,0,none⟩=some (.bool false):=by go_simp
  have q1:w1.cell? ⟨w.heap.size+1+1,1,none⟩=some (.int .i64 0):=by go_simp
  exact bodyPost_ret (v:= .agg #[.bool false, .int .i64 0]) (by simp[results,Tryz.results131,go_sem, *]) rfl ⟨rfl,gq⟩
 have hv:sumV a b=ofV (a.n+b.n):=by simp[sumV,ha,hb]
 rw[hv];clear hv
 have a1:=knB_lo ha
 have a2:=knB_hi ha
 have b1:=knB_lo hb
 have b2:=knB_hi hb
 by_cases hp:0<b.n
 ·
  by_cases ho:4611686018427387904-b.n<a.n
  ·
   have hv:ofV (a.n+b.n)=⟨false,0⟩:=ofV_hi (by omega)
   rw[hv];clear hv
   go_enter Tryz.func131,Tryz.ntmps131
   go_wp2_with fail
   refine (kn_any a _).mono ?_;rintro e w1 ⟨rfl,hg⟩;obtain ⟨hc,hf⟩:=hg.cells;have hz:=hg.size;(try simp at hz);have z0:w.heap.size<w1.heap.size:=(by omega);have z1:w.heap.size+1<w1.heap.size:=(by omega);have z2:w.heap.size+1+1<w1.heap.size:=(by omega)
   go_wp2_with fail
   refine (kn_any b _).mono ?_;rintro e w1 ⟨rfl,hg⟩;obtain ⟨hc,hf⟩:=hg.cells;have hz:=hg.size;(try simp at hz);have z0:w.heap.size<w1.heap.size:=(by omega);have z1:w.heap.size+1<w1.heap.size:=(by omega);have z2:w.heap.size+1+1<w1.heap.size:=(by omega)
   go_wp2
   have q0:w1.cell? ⟨w.heap.size+1+1,0,none⟩=some (.bool false):=by go_simp
   have q1:w1.cell? ⟨w.heap.size+1+1,1,none⟩=some (.int .i64 0):=by go_simp
   exact bodyPost_ret (v:= .agg #[.bool false, .int .i64 0]) (by simp[results,Tryz.results131,go_sem, *]) rfl ⟨rfl,gq⟩
  ·
   have hb0:¬b.n<0:=by omega
   go_enter Tryz.func131,Tryz.ntmps131
   go_wp2_with fail
   refine (kn_any a _).mono ?_;rintro e w1 ⟨rfl,hg⟩;obtain ⟨hc,hf⟩:=hg.cells;have hz:=hg.size;(try simp at hz);have z0:w.heap.size<w1.heap.size:=(by omega);have z1:w.heap.size+1<w1.heap.size:=(by omega);have z2:w.heap.size+1+1<w1.heap.size:=(by omega)
   go_wp2_with fail
   refine (kn_any b _).mono ?_;rintro e w1 ⟨rfl,hg⟩;obtain ⟨hc,hf⟩:=hg.cells;have hz:=hg.size;(try simp at hz);have z0:w.heap.size<w1.heap.size:=(by omega);have z1:w.heap.size+1<w1.heap.size:=(by omega);have z2:w.heap.size+1+1<w1.heap.size:=(by omega)
   go_wp2_with fail
   refine (of_any (a.n+b.n) _).mono ?_;rintro e w1 ⟨rfl,hg⟩;obtain ⟨hc,hf⟩:=hg.cells;have hz:=hg.size;(try simp at hz);have z0:w.heap.size<w1.heap.size:=(by omega);have z1:w.heap.size+1<w1.heap.size:=(by omega);have z2:w.heap.size+1+1<w1.heap.size:=(by omega)
   go_wp2
   have q0:w1.cell? ⟨w.heap.size+1+1,0,none⟩=some (.bool false):=by go_simp
   have q1:w1.cell? ⟨w.heap.size+1+1,1,none⟩=some (.int .i64 0):=by go_simp
   exact bodyPost_ret (v:= .agg #[.bool (ofV (a.n+b.n)).ok, .int .i64 (ofV (a.n+b.n)).n]) (by simp[results,Tryz.results131,go_sem, *]) rfl ⟨rfl,gq⟩
 ·
  by_cases hm:b.n<0
  ·
   by_cases ho:a.n < -4611686018427387904-b.n
   ·
    have hv:ofV (a.n+b.n)=⟨false,0⟩:=ofV_lo (by omega)
    rw[hv];clear hv
    go_enter Tryz.func131,Tryz.ntmps131
    go_wp2_with fail
    refine (kn_any a _).mono ?_;rintro e w1 ⟨rfl,hg⟩;obtain ⟨hc,hf⟩:=hg.cells;have hz:=hg.size;(try simp at hz);have z0:w.heap.size<w1.heap.size:=(by omega);have z1:w.heap.size+1<w1.heap.size:=(by omega);have z2:w.heap.size+1+1<w1.heap.size:=(by omega)
    go_wp2_with fail
    refine (kn_any b _).mono ?_;rintro e w1 ⟨rfl,hg⟩;obtain ⟨hc,hf⟩:=hg.cells;have hz:=hg.size;(try simp at hz);have z0:w.heap.size<w1.heap.size:=(by omega);have z1:w.heap.size+1<w1.heap.size:=(by omega);have z2:w.heap.size+1+1<w1.heap.size:=(by omega)
    go_wp2
    have q0:w1.cell? ⟨w.heap.size+1+1,0,none⟩=some (.bool false):=by go_simp
    have q1:w1.cell? ⟨w.heap.size+1+1,1,none⟩=some (.int .i64 0):=by go_simp
    exact bodyPost_ret (v:= .agg #[.bool false, .int .i64 0]) (by simp[results,Tryz.results131,go_sem, *]) rfl ⟨rfl,gq⟩
   ·
    go_enter Tryz.func131,Tryz.ntmps131
    go_wp2_with fail
    refine (kn_any a _).mono ?_;rintro e w1 ⟨rfl,hg⟩;obtain ⟨hc,hf⟩:=hg.cells;have hz:=hg.size;(try simp at hz);have z0:w.heap.size<w1.heap.size:=(by omega);have z1:w.heap.size+1<w1.heap.size:=(by omega);have z2:w.heap.size+1+1<w1.heap.size:=(by omega)
    go_wp2_with fail
    refine (kn_any b _).mono ?_;rintro e w1 ⟨rfl,hg⟩;obtain ⟨hc,hf⟩:=hg.cells;have hz:=hg.size;(try simp at hz);have z0:w.heap.size<w1.heap.size:=(by omega);have z1:w.heap.size+1<w1.heap.size:=(by omega);have z2:w.heap.size+1+1<w1.heap.size:=(by omega)
    go_wp2_with fail
    refine (of_any (a.n+b.n) _).mono ?_;rintro e w1 ⟨rfl,hg⟩;obtain ⟨hc,hf⟩:=hg.cells;have hz:=hg.size;(try simp at hz);have z0:w.heap.size<w1.heap.size:=(by omega);have z1:w.heap.size+1<w1.heap.size:=(by omega);have z2:w.heap.size+1+1<w1.heap.size:=(by omega)
    go_wp2
    have q0:w1.cell? ⟨w.heap.size+1+1,0,none⟩=some (.bool false):=by go_simp
    have q1:w1.cell? ⟨w.heap.size+1+1,1,none⟩=some (.int .i64 0):=by go_simp
    exact bodyPost_ret (v:= .agg #[.bool (ofV (a.n+b.n)).ok, .int .i64 (ofV (a.n+b.n)).n]) (by simp[results,Tryz.results131,go_sem, *]) rfl ⟨rfl,gq⟩
  ·
   go_enter Tryz.func131,Tryz.ntmps131
   go_wp2_with fail
   refine (kn_any a _).mono ?_;rintro e w1 ⟨rfl,hg⟩;obtain ⟨hc,hf⟩:=hg.cells;have hz:=hg.size;(try simp at hz);have z0:w.heap.size<w1.heap.size:=(by omega);have z1:w.heap.size+1<w1.heap.size:=(by omega);have z2:w.heap.size+1+1<w1.heap.size:=(by omega)
   go_wp2_with fail
   refine (kn_any b _).mono ?_;rintro e w1 ⟨rfl,hg⟩;obtain ⟨hc,hf⟩:=hg.cells;have hz:=hg.size;(try simp at hz);have z0:w.heap.size<w1.heap.size:=(by omega);have z1:w.heap.size+1<w1.heap.size:=(by omega);have z2:w.heap.size+1+1<w1.heap.size:=(by omega)
   go_wp2_with fail
   refine (of_any (a.n+b.n) _).mono ?_;rintro e w1 ⟨rfl,hg⟩;obtain ⟨hc,hf⟩:=hg.cells;have hz:=hg.size;(try simp at hz);have z0:w.heap.size<w1.heap.size:=(by omega);have z1:w.heap.size+1<w1.heap.size:=(by omega);have z2:w.heap.size+1+1<w1.heap.size:=(by omega)
   go_wp2
   have q0:w1.cell? ⟨w.heap.size+1+1,0,none⟩=some (.bool false):=by go_simp
   have q1:w1.cell? ⟨w.heap.size+1+1,1,none⟩=some (.int .i64 0):=by go_simp
   exact bodyPost_ret (v:= .agg #[.bool (ofV (a.n+b.n)).ok, .int .i64 (ofV (a.n+b.n)).n]) (by simp[results,Tryz.results131,go_sem, *]) rfl ⟨rfl,gq⟩
theorem plus_any (a b:Vl) (w:World) :
  Calls Tryz.prog 128 #[.agg #[.bool a.ok, .int .i64 a.n], .agg #[.bool b.ok, .int .i64 b.n]] w fun e w'=>e= .returned (.agg #[.bool (sumV a b).ok, .int .i64 (sumV a b).n])∧Gr w w':=by
 cases hab:(knB a&&knB b)
 ·
  have hv:sumV a b=⟨false,0⟩:=by simp[sumV,hab]
  rw[hv];clear hv
  go_enter Tryz.func128,Tryz.ntmps128
  go_wp2_with fail
  refine (two_any a b _).mono ?_;rintro e w1 ⟨rfl,hg⟩;obtain ⟨hc,hf⟩:=hg.cells;have hz:=hg.size;(try simp at hz);have z0:w.heap.size<w1.heap.size:=(by omega);have z1:w.heap.size+1<w1.heap.size:=(by omega);have z2:w.heap.size+1+1<w1.heap.size:=(by omega)
  go_wp2
  have q0:w1.cell? ⟨w.heap.size+1+1,0,none⟩=some (.bool false):=by go_simp
  have q1:w1.cell? ⟨w.heap.size+1+1,1,none⟩=some (.int .i64 0):=by go_simp
  exact bodyPost_ret (v:= .agg #[.bool false, .int .i64 0]) (by simp[results,Tryz.results128,go_sem, *]) rfl ⟨rfl,gq⟩
 have hv:sumV a b=ofV (a.n+b.n):=by simp[sumV,hab]
 rw[hv];clear hv
 have ha:knB a=true:=by simp at hab;exact hab.1
 have hb:knB b=true:=by simp at hab;exact hab.2
 have a1:=knB_lo ha
 have a2:=knB_hi ha
 have b1:=knB_lo hb
 have b2:=knB_hi hb
 by_cases hp:0<b.n
 ·
  by_cases ho:4611686018427387904-b.n<a.n
  ·
   have hv:ofV (a.n+b.n)=⟨false,0⟩:=ofV_hi (by omega)
   rw[hv];clear hv
   go_enter Tryz.func128,Tryz.ntmps128
   go_wp2_with fail
   refine (two_any a b _).mono ?_;rintro e w1 ⟨rfl,hg⟩;obtain ⟨hc,hf⟩:=hg.cells;have hz:=hg.size;(try simp at hz);have z0:w.heap.size<w1.heap.size:=(by omega);have z1:w.heap.size+1<w1.heap.size:=(by omega);have z2:w.heap.size+1+1<w1.heap.size:=(by omega)
   go_wp2
   have q0:w1.cell? ⟨w.heap.size+1+1,0,none⟩=some (.bool false):=by go_simp
   have q1:w1.cell? ⟨w.heap.size+1+1,1,none⟩=some (.int .i64 0):=by go_simp
   exact bodyPost_ret (v:= .agg #[.bool false, .int .i64 0]) (by simp[results,Tryz.results128,go_sem, *]) rfl ⟨rfl,gq⟩
  ·
   have hb0:¬b.n<0:=by omega
   go_enter Tryz.func128,Tryz.ntmps128
   go_wp2_with fail
   refine (two_any a b _).mono ?_;rintro e w1 ⟨rfl,hg⟩;obtain ⟨hc,hf⟩:=hg.cells;have hz:=hg.size;(try simp at hz);have z0:w.heap.size<w1.heap.size:=(by omega);have z1:w.heap.size+1<w1.heap.size:=(by omega);have z2:w.heap.size+1+1<w1.heap.size:=(by omega)
   go_wp2_with fail
   refine (rof_any (a.n+b.n) _).mono ?_;rintro e w1 ⟨rfl,hg⟩;obtain ⟨hc,hf⟩:=hg.cells;have hz:=hg.size;(try simp at hz);have z0:w.heap.size<w1.heap.size:=(by omega);have z1:w.heap.size+1<w1.heap.size:=(by omega);have z2:w.heap.size+1+1<w1.heap.size:=(by omega)
   go_wp2
   have q0:w1.cell? ⟨w.heap.size+1+1,0,none⟩=some (.bool false):=by go_simp
   have q1:w1.cell? ⟨w.heap.size+1+1,1,none⟩=some (.int .i64 0):=by go_simp
   exact bodyPost_ret (v:= .agg #[.bool (ofV (a.n+b.n)).ok, .int .i64 (ofV (a.n+b.n)).n]) (by simp[results,Tryz.results128,go_sem, *]) rfl ⟨rfl,gq⟩
 ·
  by_cases hm:b.n<0
  ·
   by_cases ho:a.n < -4611686018427387904-b.n
   ·
    have hv:ofV (a.n+b.n)=⟨false,0⟩:=ofV_lo (by omega)
    rw[hv];clear hv
    go_enter Tryz.func128,Tryz.ntmps128
    go_wp2_with fail
    refine (two_any a b _).mono ?_;rintro e w1 ⟨rfl,hg⟩;obtain ⟨hc,hf⟩:=hg.cells;have hz:=hg.size;(try simp at hz);have z0:w.heap.size<w1.heap.size:=(by omega);have z1:w.heap.size+1<w1.heap.size:=(by omega);have z2:w.heap.size+1+1<w1.heap.size:=(by omega)
    go_wp2
    have q0:w1.cell? ⟨w.heap.size+1+1,0,none⟩=some (.bool false):=by go_simp
    have q1:w1.cell? ⟨w.heap.size+1+1,1,none⟩=some (.int .i64 0):=by go_simp
    exact bodyPost_ret (v:= .agg #[.bool false, .int .i64 0]) (by simp[results,Tryz.results128,go_sem, *]) rfl ⟨rfl,gq⟩
   ·
    go_enter Tryz.func128,Tryz.ntmps128
    go_wp2_with fail
    refine (two_any a b _).mono ?_;rintro e w1 ⟨rfl,hg⟩;obtain ⟨hc,hf⟩:=hg.cells;have hz:=hg.size;(try simp at hz);have z0:w.heap.size<w1.heap.size:=(by omega);have z1:w.heap.size+1<w1.heap.size:=(by omega);have z2:w.heap.size+1+1<w1.heap.size:=(by omega)
    go_wp2_with fail
    refine (rof_any (a.n+b.n) _).mono ?_;rintro e w1 ⟨rfl,hg⟩;obtain ⟨hc,hf⟩:=hg.cells;have hz:=hg.size;(try simp at hz);have z0:w.heap.size<w1.heap.size:=(by omega);have z1:w.heap.size+1<w1.heap.size:=(by omega);have z2:w.heap.size+1+1<w1.heap.size:=(by omega)
    go_wp2
    have q0:w1.cell? ⟨w.heap.size+1+1,0,none⟩=some (.bool false):=by go_simp
    have q1:w1.cell? ⟨w.heap.size+1+1,1,none⟩=some (.int .i64 0):=by go_simp
    exact bodyPost_ret (v:= .agg #[.bool (ofV (a.n+b.n)).ok, .int .i64 (ofV (a.n+b.n)).n]) (by simp[results,Tryz.results128,go_sem, *]) rfl ⟨rfl,gq⟩
  ·
   go_enter Tryz.func128,Tryz.ntmps128
   go_wp2_with fail
   refine (two_any a b _).mono ?_;rintro e w1 ⟨rfl,hg⟩;obtain ⟨hc,hf⟩:=hg.cells;have hz:=hg.size;(try simp at hz);have z0:w.heap.size<w1.heap.size:=(by omega);have z1:w.heap.size+1<w1.heap.size:=(by omega);have z2:w.heap.size+1+1<w1.heap.size:=(by omega)
   go_wp2_with fail
   refine (rof_any (a.n+b.n) _).mono ?_;rintro e w1 ⟨rfl,hg⟩;obtain ⟨hc,hf⟩:=hg.cells;have hz:=hg.size;(try simp at hz);have z0:w.heap.size<w1.heap.size:=(by omega);have z1:w.heap.size+1<w1.heap.size:=(by omega);have z2:w.heap.size+1+1<w1.heap.size:=(by omega)
   go_wp2
   have q0:w1.cell? ⟨w.heap.size+1+1,0,none⟩=some (.bool false):=by go_simp
   have q1:w1.cell? ⟨w.heap.size+1+1,1,none⟩=some (.int .i64 0):=by go_simp
   exact bodyPost_ret (v:= .agg #[.bool (ofV (a.n+b.n)).ok, .int .i64 (ofV (a.n+b.n)).n]) (by simp[results,Tryz.results128,go_sem, *]) rfl ⟨rfl,gq⟩
theorem less_any (a b:Vl) (w:World) :
  Calls Tryz.prog 127 #[.agg #[.bool a.ok, .int .i64 a.n], .agg #[.bool b.ok, .int .i64 b.n]] w fun e w'=>e= .returned (.bool (lessB a b))∧Gr w w':=by
 cases ha:knB a
 ·
  have hv:lessB a b=false:=by simp[lessB,ha]
  rw[hv];clear hv
  go_enter Tryz.func127,Tryz.ntmps127
  go_wp2_with fail
  refine (kn_any a _).mono ?_;rintro e w1 ⟨rfl,hg⟩;obtain ⟨hc,hf⟩:=hg.cells;have hz:=hg.size;(try simp at hz);have z0:w.heap.size<w1.heap.size:=(by omega);have z1:w.heap.size+1<w1.heap.size:=(by omega)
  go_wp2
  go_ret
  exact ⟨rfl,gq⟩
 cases hb:knB b
 ·
  have hv:lessB a b=false:=by simp[lessB,hb]
  rw[hv];clear hv
  go_enter Tryz.func127,Tryz.ntmps127
  go_wp2_with fail
  refine (kn_any a _).mono ?_;rintro e w1 ⟨rfl,hg⟩;obtain ⟨hc,hf⟩:=hg.cells;have hz:=hg.size;(try simp at hz);have z0:w.heap.size<w1.heap.size:=(by omega);have z1:w.heap.size+1<w1.heap.size:=(by omega)
  go_wp2_with fail
  refine (kn_any b _).mono ?_;rintro e w1 ⟨rfl,hg⟩;obtain ⟨hc,hf⟩:=hg.cells;have hz:=hg.size;(try simp at hz);have z0:w.heap.size<w1.heap.size:=(by omega);have z1:w.heap.size+1<w1.heap.size:=(by omega)
  go_wp2
  go_ret
  exact ⟨rfl,gq⟩
 have hv:lessB a b=decide (a.n<b.n):=by simp[lessB,ha,hb]
 rw[hv];clear hv
 go_enter Tryz.func127,Tryz.ntmps127
 go_wp2_with fail
 refine (kn_any a _).mono ?_;rintro e w1 ⟨rfl,hg⟩;obtain ⟨hc,hf⟩:=hg.cells;have hz:=hg.size;(try simp at hz);have z0:w.heap.size<w1.heap.size:=(by omega);have z1:w.heap.size+1<w1.heap.size:=(by omega)
 go_wp2_with fail
 refine (kn_any b _).mono ?_;rintro e w1 ⟨rfl,hg⟩;obtain ⟨hc,hf⟩:=hg.cells;have hz:=hg.size;(try simp at hz);have z0:w.heap.size<w1.heap.size:=(by omega);have z1:w.heap.size+1<w1.heap.size:=(by omega)
 go_wp2
 go_ret
 exact ⟨rfl,gq⟩
theorem addV_take {l:List Vl} {k:Nat} (h:k<l.length):addV (l.take (k+1))=sumV (addV (l.take k)) l[k]:=by
 unfold addV
 rw[List.take_succ_eq_append_getElem h,List.foldl_append]
 rfl
theorem add_any (A:Option Addr) (c:Nat) (l:List Vl) (w:World) (hl:l.length≤maxLen) (hr:Rv w A l) :
  Calls Tryz.prog 124 #[.slice A l.length c] w fun e w'=>e= .returned (.agg #[.bool (addV l).ok, .int .i64 (addV l).n])∧Gr w w':=by
 unfold maxLen at hl
 go_enter Tryz.func124,Tryz.ntmps124
 go_wp2_with fail
 refine (of_any 0 _).mono ?_;rintro e w1 ⟨rfl,hg⟩;obtain ⟨hc,hf⟩:=hg.cells;have hz:=hg.size;(try simp at hz);have z0:w.heap.size<w1.heap.size:=(by omega)
 go_wp2
 go_loopw [9] (fun i wr=>∃k:Nat,k≤l.length∧i= .int .i64 k∧Gr w wr∧w1.heap.size<wr.heap.size∧
   wr.cell? ⟨w.heap.size,0,none⟩=some (.bool false)∧wr.cell? ⟨w.heap.size,1,none⟩=some (.int .i64 0)∧wr.frozen? ⟨w.heap.size,0,none⟩=false∧wr.frozen? ⟨w.heap.size,1,none⟩=false∧
   wr.cell? ⟨w1.heap.size,0,none⟩=some (.bool (addV (l.take k)).ok)∧wr.cell? ⟨w1.heap.size,1,none⟩=some (.int .i64 (addV (l.take k)).n)∧
   wr.frozen? ⟨w1.heap.size,0,none⟩=false∧wr.frozen? ⟨w1.heap.size,1,none⟩=false)
  (fun i _=>l.length-(intOf i).toNat)
 case atStart=>exact ⟨0,Nat.zero_le _,rfl,gq,by simp,by go_simp,by go_simp,by go_simp,by go_simp,by go_simp;rfl,by go_simp;rfl,by go_simp,by go_simp⟩
 case round=>
  obtain ⟨k,hk,rfl,hgr,hzr,r0,r1,rf0,rf1,a0,a1,af0,af1⟩:=hrel
  by_cases hlt:k<l.length
  ·
   obtain ⟨ad,rfl,hb,hx0,hx1⟩:=(hr.gr hgr).at hlt
   have ht:=addV_take hlt
   have Ht:=Lib.hid ht;clear ht
   go_wp2_with fail
   refine (sum_any (addV (l.take k)) l[k] _).mono ?_;rintro e w2 ⟨rfl,hg2⟩;obtain ⟨hc2,hf2⟩:=hg2.cells;have hz2:=hg2.size;(try simp at hz2)
   have y0:w.heap.size<wr.heap.size+1:=(by omega)
   have y1:w1.heap.size<wr.heap.size+1:=(by omega)
   have y2:w1.heap.size<w2.heap.size:=(by omega)
   have y3:w.heap.size<wr.heap.size:=(by omega)
   go_wp2
   go_roundw
   case rel=>
    refine ⟨k+1,by omega,by go_num,gq,by simp;omega,by go_simp,by go_simp,by go_simp,by go_simp,?_,?_,by go_simp,by go_simp⟩
    ·
     rw[Ht.out];go_simp
    ·
     rw[Ht.out];go_simp
   case measure=>simp[intOf];omega
  ·
   have hkk:k=l.length:=by omega
   subst hkk
   rw[List.take_length] at a0 a1
   go_wp2
   exact bodyPost_ret (v:= .agg #[.bool (addV l).ok, .int .i64 (addV l).n]) (by simp[results,Tryz.results124,go_sem, *]) rfl ⟨rfl,gq⟩
namespace Kn
theorem T_lt {Y u un:Nat} (hY:0<Y) (hu:u<Y) (hun:un<4294967296):(u*4294967296+un)/Y<4294967296:=by
 rw[Nat.div_lt_iff_lt_mul hY]
 have:(u+1)*4294967296≤Y*4294967296:=Nat.mul_le_mul_right _ hu
 omega
theorem mulY {Y a b q:Nat} (h:Y=a*4294967296+b):q*Y=q*a*4294967296+q*b:=by
 rw[h,Nat.mul_add,Nat.mul_assoc]
theorem init_le {Y a b u un:Nat} (h:Y=a*4294967296+b) (ha:0<a) (hun:un<4294967296):(u*4294967296+un)/Y≤u/a:=by
 have hY:0<Y:=by omega
 rw[Nat.le_div_iff_mul_le ha]
 have h1:=Nat.div_mul_le_self (u*4294967296+un) Y
 rw[mulY h] at h1
 omega
theorem dec {Y a b u un q r:Nat} (h:Y=a*4294967296+b) (hu:u<Y) (hun:un<4294967296) (hq:u=q*a+r)
  (hT:(u*4294967296+un)/Y≤q) (ht:4294967296≤q∨4294967296*r+un<q*b) :
  1≤q∧(u*4294967296+un)/Y≤q-1∧u=(q-1)*a+(r+a):=by
 have hY:0<Y:=by omega
 have hlt:(u*4294967296+un)/Y<q:=by
  rcases ht with ht|ht
  ·
   exact Nat.lt_of_lt_of_le (T_lt hY hu hun) ht
  ·
   rw[Nat.div_lt_iff_lt_mul hY,mulY h];omega
 generalize (u*4294967296+un)/Y=T at *
 refine ⟨by omega,by omega,?_⟩
 obtain ⟨k,rfl⟩:∃k,q=k+1:=⟨q-1,by omega⟩
 rw[Nat.add_mul] at hq
 simp only[Nat.add_sub_cancel]
 omega
theorem exit1 {Y a b u un q r:Nat} (h:Y=a*4294967296+b) (ha:0<a) (hq:u=q*a+r) (hT:(u*4294967296+un)/Y≤q) (ht:q*b≤4294967296*r+un):q=(u*4294967296+un)/Y:=by
 have hY:0<Y:=by omega
 refine Nat.le_antisymm ?_ hT
 rw[Nat.le_div_iff_mul_le hY,mulY h];omega
theorem exit2 {Y a b u un q r:Nat} (h:Y=a*4294967296+b) (ha:0<a) (hb:b<4294967296) (hu:u<Y) (hq:u=q*a+r) (hT:(u*4294967296+un)/Y≤q) (ht:4294967296≤r):q=(u*4294967296+un)/Y:=by
 have hq':q<4294967296:=by
  rcases Nat.lt_or_ge q 4294967296 with h1|h1
  ·
   exact h1
  ·
   have:4294967296*a≤q*a:=Nat.mul_le_mul_right _ h1
   omega
 refine exit1 h ha hq hT ?_
 have h2:q*b≤4294967296*4294967296:=Nat.mul_le_mul (by omega) (by omega)
 have h3:4294967296*4294967296≤4294967296*r:=Nat.mul_le_mul_left _ ht
 omega
theorem rem_eq {Y N:Nat}:N-N/Y*Y=N%Y:=by
 have:=Nat.div_add_mod N Y
 rw[Nat.mul_comm] at this
 omega
theorem two_ {Y M b:Nat} (hY:0<Y):(M*4294967296+b)/Y=M/Y*4294967296+(M%Y*4294967296+b)/Y∧(M*4294967296+b)%Y=(M%Y*4294967296+b)%Y:=by
 have hd:=Nat.div_add_mod M Y
 have e2:M*4294967296+b=(M%Y*4294967296+b)+Y*(M/Y*4294967296):=by
  rw[←Nat.mul_assoc]
  generalize Y*(M/Y)=Z at *
  omega
 have d1:=Nat.add_mul_div_left (M%Y*4294967296+b) (M/Y*4294967296) hY
 have d2:=Nat.add_mul_mod_self_left (M%Y*4294967296+b) Y (M/Y*4294967296)
 rw[←e2] at d1 d2
 exact ⟨d1.trans (Nat.add_comm _ _),d2⟩
theorem two {Y u a b:Nat} (hY:0<Y) :
  (u*18446744073709551616+(a*4294967296+b))/Y=(u*4294967296+a)/Y*4294967296+((u*4294967296+a)%Y*4294967296+b)/Y∧
  (u*18446744073709551616+(a*4294967296+b))%Y=((u*4294967296+a)%Y*4294967296+b)%Y:=by
 have e:u*18446744073709551616+(a*4294967296+b)=(u*4294967296+a)*4294967296+b:=by
  rw[Nat.add_mul,Nat.mul_assoc,Nat.add_assoc]
 rw[e]
 exact two_ hY
theorem shifted {P y k:Nat} (hk:0<k):P*k/(y*k)=P/y∧P*k%(y*k)/k=P%y:=by
 refine ⟨Nat.mul_div_mul_right _ _ hk,?_⟩
 rw[Nat.mul_mod_mul_right,Nat.mul_div_cancel _ hk]
theorem un {hi lo y s:Nat} (hs:s≤63) (hlo:lo<18446744073709551616) (hhi:hi<y) (_hy:y*2^s<18446744073709551616) :
  (hi*18446744073709551616+lo)*2^s=(hi*2^s+lo/2^(64-s))*18446744073709551616+lo*2^s%18446744073709551616∧
  hi*2^s+lo/2^(64-s)<y*2^s∧lo/2^(64-s)<2^s:=by
 have e:(18446744073709551616:Nat)=2^(64-s)*2^s:=by rw[←Nat.pow_add];rw[show 64-s+s=64 from by omega]
 have hp:0<2^s:=Nat.pow_pos (by omega)
 have hp':0<2^(64-s):=Nat.pow_pos (by omega)
 have h1:lo/2^(64-s)<2^s:=by
  rw[Nat.div_lt_iff_lt_mul hp',Nat.mul_comm,←e];exact hlo
 have h2:lo*2^s/18446744073709551616=lo/2^(64-s):=by
  rw[e,Nat.mul_div_mul_right _ _ hp]
 have h3:=Nat.div_add_mod (lo*2^s) 18446744073709551616
 rw[h2] at h3
 have h4:(hi+1)*2^s≤y*2^s:=Nat.mul_le_mul_right _ hhi
 rw[Nat.add_mul] at h4
 refine ⟨?_,by omega,h1⟩
 rw[Nat.add_mul,Nat.mul_right_comm]
 generalize hi*2^s=A at *
 generalize lo*2^s=B at *
 generalize lo/2^(64-s)=C at *
 omega
end Kn
theorem bitLen_bd:∀(f x:Nat),x<2^f→f≤64→0<x→2^(Lib.bitLen x-1)≤x∧x<2^Lib.bitLen x∧1≤Lib.bitLen x∧Lib.bitLen x≤f:=by
 intro f
 induction f with
 | zero=>intro x h _ h0;simp at h;omega
 | succ f ih=>
  intro x h hf h0
  have h64:x<2^64:=Nat.lt_of_lt_of_le h (Nat.pow_le_pow_right (by omega) hf)
  have e:=Lib.bitLen_half x (by omega) h64
  rcases Nat.lt_or_ge x 2 with h2|h2
  ·
   have hx:x=1:=by omega
   subst hx
   have e1:Lib.bitLen 1=1:=by decide
   rw[e1]
   exact ⟨by decide,by decide,by decide,by omega⟩
  ·
   have hh:x/2<2^f:=by rw[Nat.pow_succ] at h;omega
   obtain ⟨a1,a2,a3,a4⟩:=ih (x/2) hh (by omega) (by omega)
   rw[e]
   obtain ⟨k,hk⟩:∃k,Lib.bitLen (x/2)=k+1:=⟨Lib.bitLen (x/2)-1,by omega⟩
   rw[hk] at a1 a2 a4 ⊢
   simp only[Nat.add_sub_cancel] at a1
   rw[show 1+(k+1)-1=k+1 from by omega,show 1+(k+1)=k+1+1 from by omega]
   rw[Nat.pow_succ] at a2
   refine ⟨?_,?_,by omega,by omega⟩
   ·
    rw[Nat.pow_succ];omega
   ·
    rw[Nat.pow_succ,Nat.pow_succ];omega
structure Dv (hi lo y s Y a b u d1 d0 L:Nat):Prop where
 e1:IntKind.u64.wrap ((y:Int)*2^s)=(Y:Int)
 e2:(Y:Int)/4294967296=(a:Int)
 e3:bits .and .u64 (Y:Int) 4294967295=(b:Int)
 e4:bits .or .u64 (IntKind.u64.wrap ((hi:Int)*2^s)) ((lo:Int)/2^(64-s))=(u:Int)
 e5:IntKind.u64.wrap ((lo:Int)*2^s)=(L:Int)
 e6:(L:Int)/4294967296=(d1:Int)
 e7:bits .and .u64 (L:Int) 4294967295=(d0:Int)
 hY:Y=a*4294967296+b
 hb:b<4294967296
 ha:a<4294967296
 ha':2147483648≤a
 hu:u<Y
 h1:d1<4294967296
 h0:d0<4294967296
 hN:(hi*18446744073709551616+lo)*2^s=u*18446744073709551616+(d1*4294967296+d0)
 hYs:Y=y*2^s
theorem dv_and (L:Nat) (h:L<18446744073709551616):bits .and .u64 (L:Int) 4294967295=((L%4294967296:Nat):Int):=by
 have h1:=bits_and_u64_nat L 4294967295 h (by omega)
 have e:L &&& 4294967295=L%4294967296:=Nat.and_two_pow_sub_one_eq_mod L 32
 rw[e] at h1
 exact h1
theorem dv_wrap (a:Nat):IntKind.u64.wrap (a:Int)=((a%18446744073709551616:Nat):Int):=by rw[IntKind.wrap_u64];omega
theorem dv_mk (hi lo y s:Nat) (hy:hi<y) (hy64:y<18446744073709551616) (hlo:lo<18446744073709551616) (hs:Lib.bitLen y+s=64) (hs63:s≤63) :
  ∃Y a b u d1 d0 L,Dv hi lo y s Y a b u d1 d0 L:=by
 obtain ⟨c1,c2,c3,c4⟩:=bitLen_bd 64 y (by simpa using hy64) (by omega) (by omega)
 have p64:(2:Nat)^64=18446744073709551616:=by decide
 have hp:0<2^s:=Nat.pow_pos (by omega)
 have hY1:y*2^s<18446744073709551616:=by
  have:y*2^s<2^Lib.bitLen y*2^s:=Nat.mul_lt_mul_of_pos_right c2 hp
  rw[←Nat.pow_add,hs,p64] at this
  exact this
 have hY2:9223372036854775808≤y*2^s:=by
  have:2^(Lib.bitLen y-1)*2^s≤y*2^s:=Nat.mul_le_mul_right _ c1
  rw[←Nat.pow_add,show Lib.bitLen y-1+s=63 from by omega] at this
  exact this
 obtain ⟨n1,n2,n3⟩:=Kn.un hs63 hlo hy hY1
 have cast:∀x:Nat,(x:Int)*2^s=((x*2^s:Nat):Int):=fun x=>by rw[Int.natCast_mul,Int.natCast_pow];rfl
 have castd:(lo:Int)/2^(64-s)=((lo/2^(64-s):Nat):Int):=by rw[Int.natCast_ediv,Int.natCast_pow];rfl
 have hor:hi*2^s ||| lo/2^(64-s)=hi*2^s+lo/2^(64-s):=by
  rw[Nat.mul_comm];exact (Nat.two_pow_add_eq_or_of_lt n3 hi).symm
 refine ⟨y*2^s,y*2^s/4294967296,y*2^s%4294967296,hi*2^s+lo/2^(64-s),lo*2^s%18446744073709551616/4294967296,lo*2^s%18446744073709551616%4294967296,lo*2^s%18446744073709551616,?_⟩
 generalize hYd:y*2^s=Y at *
 generalize hHd:hi*2^s=Hh at *
 generalize hCd:lo/2^(64-s)=C at *
 generalize hLd:lo*2^s=L0 at *
 exact {
  e1:=by rw[cast,hYd,dv_wrap,Nat.mod_eq_of_lt hY1]
  e2:=by omega
  e3:=dv_and Y hY1
  e4:=by
   rw[castd,cast,hHd,dv_wrap,Nat.mod_eq_of_lt (by omega),bits_or_u64_nat Hh C (by omega) (by omega),hor]
  e5:=by rw[cast,hLd,dv_wrap]
  e6:=by omega
  e7:=dv_and _ (by omega)
  hY:=by omega
  hb:=by omega
  ha:=by omega
  ha':=by omega
  hu:=n2
  h1:=by omega
  h0:=by omega
  hN:=by rw[n1];omega
  hYs:=hYd.symm}
structure Dg (Y a b u d T Q M R:Nat):Prop where
 e8:(u:Int)/(a:Int)=(Q:Int)
 e9:IntKind.u64.wrap ((Q:Int)*(a:Int))=(M:Int)
 e10:(u:Int)-(M:Int)=(R:Int)
 hM:M≤u
 hq:u=Q*a+R
 hT:T≤Q
 hQ:Q<8589934592
 hR:R<a
 hTd:T=(u*4294967296+d)/Y
 hTl:T<4294967296
theorem dg_mk {Y a b u d:Nat} (hY:Y=a*4294967296+b) (hb:b<4294967296) (ha:a<4294967296) (ha':2147483648≤a) (hu:u<Y) (hd:d<4294967296):∃T Q M R,Dg Y a b u d T Q M R:=by
 have hm:=Nat.div_add_mod u a
 have hr:=Nat.mod_lt u (show a>0 by omega)
 have hQ:u/a<8589934592:=by
  rw[Nat.div_lt_iff_lt_mul (by omega)]
  have:8589934592*2147483648≤8589934592*a:=Nat.mul_le_mul_left _ ha'
  omega
 have hi:=Kn.init_le (un:=d) (u:=u) hY (by omega) hd
 have hTl:=Kn.T_lt (un:=d) (u:=u) (Y:=Y) (by omega) hu hd
 have c8:(u:Int)/(a:Int)=((u/a:Nat):Int):=(Int.natCast_ediv u a).symm
 have cM:((u/a:Nat):Int)*(a:Int)=((u/a*a:Nat):Int):=(Int.natCast_mul _ _).symm
 have hMu:u/a*a≤u:=Nat.div_mul_le_self u a
 rw[Nat.mul_comm] at hm
 generalize hTd:(u*4294967296+d)/Y=T at *
 generalize hQd:u/a=Q at *
 generalize u%a=R at *
 refine ⟨T,Q,Q*a,R,?_⟩
 exact {e8:=c8,e9:=by rw[cM,dv_wrap,Nat.mod_eq_of_lt (by omega)],e10:=by omega,hM:=hMu,hq:=hm.symm,hT:=hi,hQ:=hQ,hR:=hr,hTd:=hTd.symm,hTl:=hTl}
theorem dg_rem {Y u d T:Nat} (hY64:Y<18446744073709551616) (hY0:0<Y) (hT:T=(u*4294967296+d)/Y) :
  IntKind.u64.wrap (IntKind.u64.wrap (IntKind.u64.wrap ((u:Int)*4294967296)+(d:Int))-IntKind.u64.wrap ((T:Int)*(Y:Int)))=(((u*4294967296+d)%Y:Nat):Int):=by
 have h1:=Kn.rem_eq (Y:=Y) (N:=u*4294967296+d)
 have h2:=Nat.div_mul_le_self (u*4294967296+d) Y
 have h3:=Nat.mod_lt (u*4294967296+d) hY0
 have c:(T:Int)*(Y:Int)=((T*Y:Nat):Int):=(Int.natCast_mul _ _).symm
 rw[←hT] at h1 h2
 rw[c]
 generalize (u*4294967296+d)%Y=M at *
 generalize T*Y=Z at *
 simp only[IntKind.wrap_u64]
 omega
end Go.Proofs.YtoncapkmaeghfaaGreat
