import Derived.Test.YtnphdacibageiaaGreatRunFpAhead
import Derived.Test.YtnphdacibageiaaGreatRunPkVis
import Derived.Deep.Light
import Derived.IntWalk
set_option linter.all false
set_option maxRecDepth 1000000
set_option maxHeartbeats 12800000
namespace Go.Proofs.YtnphdacibageiaaGreat
open Go.RowKit
theorem scells_drop (L:List Sq) (m:Nat) (h:m≤L.length):scells (L.drop m)=(scells L).drop (m*5):=by
 have h1:scells (L.take m)++scells (L.drop m)=scells L:=by rw[←scells_append,List.take_append_drop]
 rw[←h1,List.drop_left' (by rw[scells_length,List.length_take];congr 1;omega)]
theorem Rl.drop {w:World} {ad:Addr} {L:List Sq} (h:Rl w (some ad) L) {m c:Nat} (hm:m≤L.length) (hc:L.length≤c):Rd w 5 (if c=m then some ad else some (ad.add (m*5))) (L.length-m) (scells (L.drop m)):=by
 refine ⟨by rw[scells_length,List.length_drop],fun h0=>?_⟩
 rw[if_neg (by omega)]
 obtain ⟨ad',e,hb,hc⟩:=h.2 (by omega)
 injection e with e
 subst e
 refine ⟨_,rfl,by rw[add_blk];exact hb,fun j u hu=>?_⟩
 rw[scells_drop L m hm,List.getElem?_drop] at hu
 rw[add_two]
 exact hc _ u hu
theorem Rl.takes {w:World} {A:Option Addr} {L:List Sq} (h:Rl w A L) {m:Nat} (hm:m≤L.length):Rd w 5 A m (scells (L.take m)):=by
 have h1:=h.take hm
 unfold Rl at h1
 rw[List.length_take,Nat.min_eq_left hm] at h1
 exact h1
theorem val_slice {A:Option Addr} {n m c:Nat} (h:n=m):Value.slice A n c= .slice A m c:=by rw[h]
theorem posR_no {α:Type} {lt:α→α→Bool} {x:α} {out:List α} {k:Nat} (h:k<out.length) (hb:lt x out[k]=false):posR lt x out (k+1)=k+1:=by
 unfold posR;rw[List.getElem?_eq_getElem h];simp[hb]
theorem posR_yes {α:Type} {lt:α→α→Bool} {x:α} {out:List α} {k:Nat} (h:k<out.length) (hb:lt x out[k]=true):posR lt x out (k+1)=posR lt x out k:=by
 conv=>lhs;unfold posR
 rw[List.getElem?_eq_getElem h];simp[hb]
theorem rsorted_any (nm:ByteArray) (A:Option Addr) (c:Nat) (L:List Sq) (w:World) (h20:L.length≤20) (hle:∀x∈L,x.s.vals.length≤1000000) (hr:Rl w A L) (hv:Lie w L) :
  Calls Tryz.prog 33 #[.string nm, .slice A L.length c] w (RetL (sortR (fun a b=>aheadB nm a.s.name b.s.name (ofR (rowF nm).by_ a.s.vals) (ofR (rowF nm).by_ b.s.vals)) L) w):=by
 obtain ⟨i0,hi0,hz0,hz1,hz2⟩:=info_parts info_ser
 obtain ⟨lt,hlt0⟩:∃lt:Sq→Sq→Bool,lt=fun a b=>aheadB nm a.s.name b.s.name (ofR (rowF nm).by_ a.s.vals) (ofR (rowF nm).by_ b.s.vals):=⟨_,rfl⟩
 rw[←hlt0]
 have HLT:Hid (∀a b,lt a b=aheadB nm a.s.name b.s.name (ofR (rowF nm).by_ a.s.vals) (ofR (rowF nm).by_ b.s.vals)):=Lib.hid (fun a b=>by rw[hlt0])
 clear hlt0
 have HLE:=Lib.hid hle
 have h20':(L.length:Int)≤20:=by omega
 clear hle
 go_enter Tryz.func33,Tryz.ntmps33
 go_wp2
 go_loopw [5,6] (fun v i wr=>∃(k:Nat) (O:List Sq),k≤L.length∧i= .int .i64 k∧Gr w wr∧O.length=k∧Hid (O=sortR lt (L.take k))∧((k=0∧v= .slice none 0 0)∨(0<k∧∃ad c',v= .slice (some ad) k c'∧k≤c'∧Rl wr (some ad) O))) (fun _ i _=>L.length-(intOf i).toNat)
 case atStart=>exact ⟨0,[],Nat.zero_le _,rfl,Gr.refl _,rfl,Lib.hid rfl, .inl ⟨rfl,rfl⟩⟩
 case round=>
  obtain ⟨k,O,hk,rfl,hgr,hOl,HO,hcase⟩:=hrel
  obtain ⟨wo,hwo⟩:∃wo:World,wo=wr:=⟨_,rfl⟩
  subst hwo
  by_cases hlt:k<L.length
  ·
   obtain ⟨x,hx⟩:∃x,L[k]=x:=⟨_,rfl⟩
   obtain ⟨ad,rfl,hb,hx0,hx1,hx2,hx3,hx4⟩:=(hr.gr hgr).at hlt
   have hvx:=(hv _ (List.getElem_mem hlt)).gr hgr
   have hlx:=HLE.out _ (List.getElem_mem hlt)
   rw[hx] at hx0 hx1 hx2 hx3 hx4 hvx hlx
   have HNX:Hid (sortR lt (L.take (k+1))=insR lt O x):=Lib.hid (by rw[sortR_succ lt L hlt,HO.out,hx])
   have HX:Hid (∀W,Gr wo W→W.cell? (ad.add (k*5))=some (.string x.s.name)∧W.cell? ⟨(ad.add (k*5)).block,(ad.add (k*5)).off+1,none⟩=some (.int .i64 x.s.start)∧W.cell? ⟨(ad.add (k*5)).block,(ad.add (k*5)).off+2,none⟩=some (.int .i64 x.s.step)∧W.cell? ⟨(ad.add (k*5)).block,(ad.add (k*5)).off+3,none⟩=some (.slice x.A x.s.vals.length x.c)∧W.cell? ⟨(ad.add (k*5)).block,(ad.add (k*5)).off+4,none⟩=some (.int .i64 x.s.cons)):=Lib.hid (fun W hW=>⟨(hW.cell (p:=ad.add (k*5)) (by rw[add_blk];exact hb)).trans hx0,(hW.cell (p:=⟨(ad.add (k*5)).block,(ad.add (k*5)).off+1,none⟩) (by show (ad.add (k*5)).block<_;rw[add_blk];exact hb)).trans hx1,(hW.cell (p:=⟨(ad.add (k*5)).block,(ad.add (k*5)).off+2,none⟩) (by show (ad.add (k*5)).block<_;rw[add_blk];exact hb)).trans hx2,(hW.cell (p:=⟨(ad.add (k*5)).block,(ad.add (k*5)).off+3,none⟩) (by show (ad.add (k*5)).block<_;rw[add_blk];exact hb)).trans hx3,(hW.cell (p:=⟨(ad.add (k*5)).block,(ad.add (k*5)).off+4,none⟩) (by show (ad.add (k*5)).block<_;rw[add_blk];exact hb)).trans hx4⟩)
   clear hx
   rcases hcase with ⟨rfl,rfl⟩|⟨hk0,ad',c',rfl,hkc,hrO⟩
   ·
    have hO:O=[]:=List.eq_nil_of_length_eq_zero hOl
    subst hO
    have HNX2:Hid ([]++[x]++[]=sortR lt (L.take (0+1))):=Lib.hid (by rw[HNX.out];rfl)
    have HX0:=HX.out
    rw[show ad.add (0*5)=ad by simp[Addr.add]] at HX0
    clear HX
    have HX:=Lib.hid HX0
    clear HX0 HNX HO hx0 hx1 hx2 hx3 hx4
    go_wp2
    go_loopw [7] (fun a wr2=>a= .int .i64 0∧Gr wo wr2) (fun _ _=>0)
    case atStart=>exact ⟨rfl,Gr.refl _⟩
    case round=>
     obtain ⟨rfl,gi0⟩:=hrel
     go_wp2
     refine region_R (by kernel_rfl) (by kernel_rfl) ?_
     iterate 3 (refine rv ?_;simp only[Pu])
     iterate 11 (refine rs ?_;simp only[Pu])
     refine rv ?_;simp only[Pu]
     refine r_nil ?_
     intro w6 hg6
     have gi:=Gr.trans gi0 hg6
     obtain ⟨wi,hwi⟩:∃wi:World,wi=w6:=⟨_,rfl⟩
     subst hwi
     obtain ⟨OT,hOT⟩:∃OT:List Sq,OT=[]:=⟨_,rfl⟩
     obtain ⟨OD,hOD⟩:∃OD:List Sq,OD=[]:=⟨_,rfl⟩
     have hOt:Rd wo 5 none 0 (scells OT):=by rw[hOT];exact Rd.nil _ _ _
     have hOd:Rd wo 5 none (0-0) (scells OD):=by rw[hOD];exact Rd.nil _ _ _
     have HNX3:Hid (OT++[x]++OD=sortR lt (L.take (0+1))):=Lib.hid (by rw[hOT,hOD];exact HNX2.out)
     clear hOT hOD HNX2 hg6 gi0
     go_upto_region 8 with (fail)
     go_cut [8] from 34 to 45 (fun p wx=>∃(A':Option Addr) (c':Nat),p= .slice A' (0+1) c'∧wx.ownsRow wo.heap.size 34 5 (.slice A' (0+1) c') (0+1) (scells (OT++[x]))∧Gr wo wx)
     case first=>
      have hS0:Gr wo wi.drew:=Gr.drew gi
      obtain ⟨V,hV⟩:∃V,V=wi.drew:=⟨_,rfl⟩
      refine wp_region_Z 11 (fun W=>Gr wo W) (by kernel_rfl) ?_
      rw[←hV] at hS0 ⊢
      clear hV
      refine zt 1 rfl hS0 (fun W hS=>by go_simp;rfl) ?_
      refine zt 2 rfl hS0 (fun W hS=>by go_simp;rfl) ?_
      refine zt 3 rfl hS0 (fun W hS=>by go_simp;rfl) ?_
      refine zt 5 rfl hS0 (fun W hS=>by go_simp;rfl) ?_
      refine zt 6 rfl hS0 (fun W hS=>by go_simp;rfl) ?_
      refine zt 7 rfl hS0 (fun W hS=>by go_simp;rfl) ?_
      refine zt 8 rfl hS0 (fun W hS=>by have y:=HX.out W hS;obtain ⟨x0,x1,x2,x3,x4⟩:=y;go_simp;rfl) ?_
      refine wpAnyZ_ready (rs:=[0,9]) (by kernel_rfl) (by simp) ?_
      refine AllReadyZ.cons rfl (by rfl) (fun K hK=>?_) (AllReadyZ.cons rfl (by rfl) (fun K hK=>?_) AllReadyZ.nil)
      ·
       have ho102:=own_empty V wo.heap.size hS0.size 34 5
       have g101:=Gr.alloc hS0 (.cells #[] 34)
       go_simp
       refine hK.out _ _ (fun hnz=>?s8) (fun _=>?r8)
       case s8=>exact g101
       clear hK K
       try simp only[Pu]
       obtain ⟨V103,hV103⟩:∃V103,V103=V.alloc (.cells #[] 34):=⟨_,rfl⟩
       rw[←hV103] at g101 ho102 ⊢
       have z104:V.heap.size<V103.heap.size:=by rw[hV103];simp
       clear hV103
       refine wpAnyZ_ready (rs:=[4,9]) (by kernel_rfl) (by simp) ?_
       refine AllReadyZ.cons rfl (by rfl) (fun K hK=>?_) (AllReadyZ.cons rfl (by rfl) (fun K hK=>?_) AllReadyZ.nil)
       ·
        refine wp_append_rd0 (.tmp 34) (.tmp 37) 22 rfl wo.heap.size 34 i0 _ 5 64 Tryz.underlying22 hi0 hz0 hz1 hz2 rfl (by decide) _ 0 _ rfl ho102 none 0 0 (scells OT) rfl (hOt.gr g101) (scells_one _) (by unfold maxLen;omega) (by omega) g101.size ?_
        intro v105 w106 ho107 gr108 _
        have g109:=Gr.grown g101 gr108 (fun j hj=>(ho102.lt j hj).1)
        rw[Nat.zero_add,List.nil_append] at ho107
        clear gr108
        refine hK.out _ _ (fun hnz=>?s9) (fun _=>?r9)
        case s9=>exact g109
        clear hK K
        try simp only[Pu]
        refine zs 9 rfl (fun K hK=>?_)
        have hx111:=Rl.new (W:=w106) rfl 34 [x]
        have g110:=Gr.alloc g109 (.cells (scells [x]).toArray 34)
        have ho113:=ho107.alloc (.cells (scells [x]).toArray 34)
        go_simp
        refine hK.out _ _ (fun hnz=>?s10) (fun _=>?r10)
        case s10=>exact g110
        clear hK K
        try simp only[Pu]
        obtain ⟨V112,hV112⟩:∃V112,V112=w106.alloc (.cells (scells [x]).toArray 34):=⟨_,rfl⟩
        have eV112:w106.alloc (.cells #[.string x.s.name, .int .i64 x.s.start, .int .i64 x.s.step, .slice x.A x.s.vals.length x.c, .int .i64 x.s.cons] 34)=V112:=hV112.symm
        rw[←hV112] at g110 hx111 ho113
        rw[eV112]
        have z114:w106.heap.size<V112.heap.size:=by rw[hV112];simp
        clear hV112 eV112
        refine zs 10 rfl (fun K hK=>?_)
        refine wp_append_rd0 (.tmp 38) (.tmp 43) 22 rfl wo.heap.size 34 i0 _ 5 64 Tryz.underlying22 hi0 hz0 hz1 hz2 rfl (by decide) _ 0 _ rfl ho113 (some ⟨w106.heap.size,0,none⟩) 1 1 (scells [x]) rfl hx111 (scells_one _) (by unfold maxLen;omega) (by omega) g110.size ?_
        intro v115 w116 ho117 gr118 _
        have g119:=Gr.grown g110 gr118 (fun j hj=>(ho113.lt j hj).1)
        rw[←scells_append] at ho117
        obtain ⟨AN,cN,hvN⟩:=own_form ho117
        subst hvN
        clear gr118
        refine hK.out _ _ (fun hnz=>?s11) (fun _=>?r11)
        case s11=>exact g119
        clear hK K
        try simp only[Pu]
        refine zs 11 rfl (fun K hK=>?_)
        go_simp
        refine hK.out _ _ (fun hnz=>?s12) (fun _=>?r12)
        case s12=>exact absurd rfl hnz
        clear hK K
        try simp only[Pu]
        refine wpAnyZ_done (by kernel_rfl) ?_ _
        go_wp2_with fail
        go_meet
        exact ⟨_,_,rfl,ho117,g119⟩
       ·
        have hx121:=Rl.new (W:=V103) rfl 34 [x]
        have g120:=Gr.alloc g101 (.cells (scells [x]).toArray 34)
        have ho123:=ho102.alloc (.cells (scells [x]).toArray 34)
        have hne:V103.heap.size≠V.heap.size:=(Nat.ne_of_lt z104).symm
        go_simp
        refine hK.out _ _ (fun hnz=>?s13) (fun _=>?r13)
        case s13=>exact g120
        clear hK K
        try simp only[Pu]
        obtain ⟨V122,hV122⟩:∃V122,V122=V103.alloc (.cells (scells [x]).toArray 34):=⟨_,rfl⟩
        have eV122:V103.alloc (.cells #[.string x.s.name, .int .i64 x.s.start, .int .i64 x.s.step, .slice x.A x.s.vals.length x.c, .int .i64 x.s.cons] 34)=V122:=hV122.symm
        rw[←hV122] at g120 hx121 ho123
        rw[eV122]
        have z124:V103.heap.size<V122.heap.size:=by rw[hV122];simp
        clear hV122 eV122
        refine zs 4 rfl (fun K hK=>?_)
        refine wp_append_rd0 (.tmp 34) (.tmp 37) 22 rfl wo.heap.size 34 i0 _ 5 64 Tryz.underlying22 hi0 hz0 hz1 hz2 rfl (by decide) _ 0 _ rfl ho123 none 0 0 (scells OT) rfl (hOt.gr g120) (scells_one _) (by unfold maxLen;omega) (by omega) g120.size ?_
        intro v125 w126 ho127 gr128 _
        have g129:=Gr.grown g120 gr128 (fun j hj=>(ho123.lt j hj).1)
        have hx130:=Rd.grown hx121 gr128 (by intro ad hA hr;injection hA with hA;subst hA;injection hr with hr;exact hne hr)
        rw[Nat.zero_add,List.nil_append] at ho127
        clear gr128
        refine hK.out _ _ (fun hnz=>?s14) (fun _=>?r14)
        case s14=>exact g129
        clear hK K
        try simp only[Pu]
        refine zs 10 rfl (fun K hK=>?_)
        refine wp_append_rd0 (.tmp 38) (.tmp 43) 22 rfl wo.heap.size 34 i0 _ 5 64 Tryz.underlying22 hi0 hz0 hz1 hz2 rfl (by decide) _ 0 _ rfl ho127 (some ⟨V103.heap.size,0,none⟩) 1 1 (scells [x]) rfl hx130 (scells_one _) (by unfold maxLen;omega) (by omega) g129.size ?_
        intro v131 w132 ho133 gr134 _
        have g135:=Gr.grown g129 gr134 (fun j hj=>(ho127.lt j hj).1)
        rw[←scells_append] at ho133
        obtain ⟨AN,cN,hvN⟩:=own_form ho133
        subst hvN
        clear gr134
        refine hK.out _ _ (fun hnz=>?s15) (fun _=>?r15)
        case s15=>exact g135
        clear hK K
        try simp only[Pu]
        refine zs 11 rfl (fun K hK=>?_)
        go_simp
        refine hK.out _ _ (fun hnz=>?s16) (fun _=>?r16)
        case s16=>exact absurd rfl hnz
        clear hK K
        try simp only[Pu]
        refine wpAnyZ_done (by kernel_rfl) ?_ _
        go_wp2_with fail
        go_meet
        exact ⟨_,_,rfl,ho133,g135⟩
      ·
       have hx137:=Rl.new (W:=V) rfl 34 [x]
       have g136:=Gr.alloc hS0 (.cells (scells [x]).toArray 34)
       go_simp
       refine hK.out _ _ (fun hnz=>?s17) (fun _=>?r17)
       case s17=>exact g136
       clear hK K
       try simp only[Pu]
       obtain ⟨V138,hV138⟩:∃V138,V138=V.alloc (.cells (scells [x]).toArray 34):=⟨_,rfl⟩
       have eV138:V.alloc (.cells #[.string x.s.name, .int .i64 x.s.start, .int .i64 x.s.step, .slice x.A x.s.vals.length x.c, .int .i64 x.s.cons] 34)=V138:=hV138.symm
       rw[←hV138] at g136 hx137
       rw[eV138]
       have z139:V.heap.size<V138.heap.size:=by rw[hV138];simp
       clear hV138 eV138
       refine zs 0 rfl (fun K hK=>?_)
       have ho141:=own_empty V138 wo.heap.size g136.size 34 5
       have g140:=Gr.alloc g136 (.cells #[] 34)
       have hx143:=hx137.gr (Gr.alloc (Gr.refl _) (.cells #[] 34))
       have hne:V.heap.size≠V138.heap.size:=Nat.ne_of_lt z139
       go_simp
       refine hK.out _ _ (fun hnz=>?s18) (fun _=>?r18)
       case s18=>exact g140
       clear hK K
       try simp only[Pu]
       obtain ⟨V142,hV142⟩:∃V142,V142=V138.alloc (.cells #[] 34):=⟨_,rfl⟩
       rw[←hV142] at g140 ho141 hx143 ⊢
       clear hV142
       refine zs 4 rfl (fun K hK=>?_)
       refine wp_append_rd0 (.tmp 34) (.tmp 37) 22 rfl wo.heap.size 34 i0 _ 5 64 Tryz.underlying22 hi0 hz0 hz1 hz2 rfl (by decide) _ 0 _ rfl ho141 none 0 0 (scells OT) rfl (hOt.gr g140) (scells_one _) (by unfold maxLen;omega) (by omega) g140.size ?_
       intro v144 w145 ho146 gr147 _
       have g148:=Gr.grown g140 gr147 (fun j hj=>(ho141.lt j hj).1)
       have hx149:=Rd.grown hx143 gr147 (by intro ad hA hr;injection hA with hA;subst hA;injection hr with hr;exact hne hr)
       rw[Nat.zero_add,List.nil_append] at ho146
       clear gr147
       refine hK.out _ _ (fun hnz=>?s19) (fun _=>?r19)
       case s19=>exact g148
       clear hK K
       try simp only[Pu]
       refine zs 10 rfl (fun K hK=>?_)
       refine wp_append_rd0 (.tmp 38) (.tmp 43) 22 rfl wo.heap.size 34 i0 _ 5 64 Tryz.underlying22 hi0 hz0 hz1 hz2 rfl (by decide) _ 0 _ rfl ho146 (some ⟨V.heap.size,0,none⟩) 1 1 (scells [x]) rfl hx149 (scells_one _) (by unfold maxLen;omega) (by omega) g148.size ?_
       intro v150 w151 ho152 gr153 _
       have g154:=Gr.grown g148 gr153 (fun j hj=>(ho146.lt j hj).1)
       rw[←scells_append] at ho152
       obtain ⟨AN,cN,hvN⟩:=own_form ho152
       subst hvN
       clear gr153
       refine hK.out _ _ (fun hnz=>?s20) (fun _=>?r20)
       case s20=>exact g154
       clear hK K
       try simp only[Pu]
       refine zs 11 rfl (fun K hK=>?_)
       go_simp
       refine hK.out _ _ (fun hnz=>?s21) (fun _=>?r21)
       case s21=>exact absurd rfl hnz
       clear hK K
       try simp only[Pu]
       refine wpAnyZ_done (by kernel_rfl) ?_ _
       go_wp2_with fail
       go_meet
       exact ⟨_,_,rfl,ho152,g154⟩
     case rest=>
     obtain ⟨A8,c8,rfl,hown,g8⟩:=hcut
     have hOd8:=hOd.gr g8
     have hvl:=hown.lt
     have zb:=g8.size
     clear HX
     go_wp2_with
      (
       at_builtin
       go_loud (
       refine wpList_append_rd rfl (.tmp 45) (.tmp 48) 22 rfl wo.heap.size 34 i0 _ 5 64 Tryz.underlying22 hi0 hz0 hz1 hz2 rfl (by decide) _ (0+1) _ rfl hown (none) (0-0) (0-0) (scells OD) rfl hOd8 (scells_one _) (by unfold maxLen;omega) (by omega) (by omega) ?_
       intro v9 w9 hown9 hgr9 _))
     have g9:Gr wo w9:=Gr.grown g8 hgr9 (fun j hj=>(hvl j hj).1)
     obtain ⟨A9,c9,hv9⟩:=own_form hown9
     subst hv9
     rw[←scells_append,show 0+1+(0-0)=0+1 by omega] at hown9
     have hcap9:=own_cap hown9
     have hrd9:=Rd.own hown9
     have gw9:=Gr.trans hgr g9
     have hlen9:(OT++[x]++OD).length=0+1:=by rw[HNX3.out,sortR_len,List.length_take];omega
     obtain ⟨ad9,hA9⟩:∃ad9,A9=some ad9:=by obtain ⟨ad9,h,_⟩:=hrd9.2 (by omega);exact ⟨ad9,h⟩
     subst hA9
     have hrl9:Rl w9 (some ad9) (OT++[x]++OD):=by unfold Rl;rw[hlen9];exact hrd9
     have HL9:=Lib.hid hlen9
     clear hlen9 hrd9 hgr9 hown hvl hown9 hOd8
     go_roundw
     case rel=>exact ⟨0+1,OT++[x]++OD,by omega,by go_num,gw9,HL9.out,HNX3, .inr ⟨by omega,_,_,rfl,hcap9,hrl9⟩⟩
     case measure=>simp[intOf];omega
   ·
    go_wp2
    go_loopw [7] (fun a wr2=>∃m:Nat,m≤k∧a= .int .i64 m∧Gr wo wr2∧Hid (posR lt x O k=posR lt x O m)) (fun a _=>(intOf a).toNat)
    case atStart=>exact ⟨k,Nat.le_refl _,rfl,Gr.refl _,Lib.hid rfl⟩
    case round=>
     obtain ⟨m,hm,rfl,gi0,HP⟩:=hrel
     by_cases hm0:m=0
     ·
      subst hm0
      go_wp2
      refine region_R (by kernel_rfl) (by kernel_rfl) ?_
      iterate 3 (refine rv ?_;simp only[Pu])
      iterate 11 (refine rs ?_;simp only[Pu])
      refine rv ?_;simp only[Pu]
      refine r_nil ?_
      intro w6 hg6
      have gi:=Gr.trans gi0 hg6
      obtain ⟨wi,hwi⟩:∃wi:World,wi=w6:=⟨_,rfl⟩
      subst hwi
      have HP2:Hid (posR lt x O k=0):=Lib.hid HP.out
      clear HP hg6 gi0
      have hm:0≤k:=Nat.zero_le _
      obtain ⟨OT,hOT⟩:∃OT:List Sq,OT=O.take 0:=⟨_,rfl⟩
      obtain ⟨OD,hOD⟩:∃OD:List Sq,OD=O.drop 0:=⟨_,rfl⟩
      have hOt:Rd wo 5 (some ad') 0 (scells OT):=by rw[hOT];exact hrO.takes (by omega)
      have hOd:Rd wo 5 (some ad') (k-0) (scells OD):=by
       have h:=hrO
       unfold Rl at h
       rw[hOl] at h
       rw[hOD];exact h
      have HNX3:Hid (OT++[x]++OD=sortR lt (L.take (k+1))):=Lib.hid (by
       rw[HNX.out,hOT,hOD];unfold insR;rw[hOl,HP2.out];simp)
      have hmc:(0:Int)≤(c':Int):=by omega
      have hmk:(0:Int)≤(k:Int):=by omega
      clear hOT hOD HNX HP2 hrO
      go_upto_region 8 with (fail)
      go_cut [8] from 34 to 45 (fun p wx=>∃(A':Option Addr) (c':Nat),p= .slice A' (0+1) c'∧wx.ownsRow wo.heap.size 34 5 (.slice A' (0+1) c') (0+1) (scells (OT++[x]))∧Gr wo wx)
      case first=>
       have hS0:Gr wo wi.drew:=Gr.drew gi
       obtain ⟨V,hV⟩:∃V,V=wi.drew:=⟨_,rfl⟩
       refine wp_region_Z 11 (fun W=>Gr wo W) (by kernel_rfl) ?_
       rw[←hV] at hS0 ⊢
       clear hV
       refine zt 1 rfl hS0 (fun W hS=>by go_simp;rfl) ?_
       refine zt 2 rfl hS0 (fun W hS=>by go_simp;rfl) ?_
       refine zt 3 rfl hS0 (fun W hS=>by go_simp;rfl) ?_
       refine zt 5 rfl hS0 (fun W hS=>by go_simp;rfl) ?_
       refine zt 6 rfl hS0 (fun W hS=>by go_simp;rfl) ?_
       refine zt 7 rfl hS0 (fun W hS=>by go_simp;rfl) ?_
       refine zt 8 rfl hS0 (fun W hS=>by have y:=HX.out W hS;obtain ⟨x0,x1,x2,x3,x4⟩:=y;go_simp;rfl) ?_
       refine wpAnyZ_ready (rs:=[0,9]) (by kernel_rfl) (by simp) ?_
       refine AllReadyZ.cons rfl (by rfl) (fun K hK=>?_) (AllReadyZ.cons rfl (by rfl) (fun K hK=>?_) AllReadyZ.nil)
       ·
        have ho156:=own_empty V wo.heap.size hS0.size 34 5
        have g155:=Gr.alloc hS0 (.cells #[] 34)
        go_simp
        refine hK.out _ _ (fun hnz=>?s29) (fun _=>?r29)
        case s29=>exact g155
        clear hK K
        try simp only[Pu]
        obtain ⟨V157,hV157⟩:∃V157,V157=V.alloc (.cells #[] 34):=⟨_,rfl⟩
        rw[←hV157] at g155 ho156 ⊢
        have z158:V.heap.size<V157.heap.size:=by rw[hV157];simp
        clear hV157
        refine wpAnyZ_ready (rs:=[4,9]) (by kernel_rfl) (by simp) ?_
        refine AllReadyZ.cons rfl (by rfl) (fun K hK=>?_) (AllReadyZ.cons rfl (by rfl) (fun K hK=>?_) AllReadyZ.nil)
        ·
         refine wp_append_rd0 (.tmp 34) (.tmp 37) 22 rfl wo.heap.size 34 i0 _ 5 64 Tryz.underlying22 hi0 hz0 hz1 hz2 rfl (by decide) _ 0 _ rfl ho156 (some ad') 0 c' (scells OT) rfl (hOt.gr g155) (scells_one _) (by unfold maxLen;omega) (by omega) g155.size ?_
         intro v159 w160 ho161 gr162 _
         have g163:=Gr.grown g155 gr162 (fun j hj=>(ho156.lt j hj).1)
         rw[Nat.zero_add,List.nil_append] at ho161
         clear gr162
         refine hK.out _ _ (fun hnz=>?s30) (fun _=>?r30)
         case s30=>exact g163
         clear hK K
         try simp only[Pu]
         refine zs 9 rfl (fun K hK=>?_)
         have hx165:=Rl.new (W:=w160) rfl 34 [x]
         have g164:=Gr.alloc g163 (.cells (scells [x]).toArray 34)
         have ho167:=ho161.alloc (.cells (scells [x]).toArray 34)
         go_simp
         refine hK.out _ _ (fun hnz=>?s31) (fun _=>?r31)
         case s31=>exact g164
         clear hK K
         try simp only[Pu]
         obtain ⟨V166,hV166⟩:∃V166,V166=w160.alloc (.cells (scells [x]).toArray 34):=⟨_,rfl⟩
         have eV166:w160.alloc (.cells #[.string x.s.name, .int .i64 x.s.start, .int .i64 x.s.step, .slice x.A x.s.vals.length x.c, .int .i64 x.s.cons] 34)=V166:=hV166.symm
         rw[←hV166] at g164 hx165 ho167
         rw[eV166]
         have z168:w160.heap.size<V166.heap.size:=by rw[hV166];simp
         clear hV166 eV166
         refine zs 10 rfl (fun K hK=>?_)
         refine wp_append_rd0 (.tmp 38) (.tmp 43) 22 rfl wo.heap.size 34 i0 _ 5 64 Tryz.underlying22 hi0 hz0 hz1 hz2 rfl (by decide) _ 0 _ rfl ho167 (some ⟨w160.heap.size,0,none⟩) 1 1 (scells [x]) rfl hx165 (scells_one _) (by unfold maxLen;omega) (by omega) g164.size ?_
         intro v169 w170 ho171 gr172 _
         have g173:=Gr.grown g164 gr172 (fun j hj=>(ho167.lt j hj).1)
         rw[←scells_append] at ho171
         obtain ⟨AN,cN,hvN⟩:=own_form ho171
         subst hvN
         clear gr172
         refine hK.out _ _ (fun hnz=>?s32) (fun _=>?r32)
         case s32=>exact g173
         clear hK K
         try simp only[Pu]
         refine zs 11 rfl (fun K hK=>?_)
         go_simp
         refine hK.out _ _ (fun hnz=>?s33) (fun _=>?r33)
         case s33=>exact absurd rfl hnz
         clear hK K
         try simp only[Pu]
         refine wpAnyZ_done (by kernel_rfl) ?_ _
         go_wp2_with fail
         go_meet
         exact ⟨_,_,rfl,ho171,g173⟩
        ·
         have hx175:=Rl.new (W:=V157) rfl 34 [x]
         have g174:=Gr.alloc g155 (.cells (scells [x]).toArray 34)
         have ho177:=ho156.alloc (.cells (scells [x]).toArray 34)
         have hne:V157.heap.size≠V.heap.size:=(Nat.ne_of_lt z158).symm
         go_simp
         refine hK.out _ _ (fun hnz=>?s34) (fun _=>?r34)
         case s34=>exact g174
         clear hK K
         try simp only[Pu]
         obtain ⟨V176,hV176⟩:∃V176,V176=V157.alloc (.cells (scells [x]).toArray 34):=⟨_,rfl⟩
         have eV176:V157.alloc (.cells #[.string x.s.name, .int .i64 x.s.start, .int .i64 x.s.step, .slice x.A x.s.vals.length x.c, .int .i64 x.s.cons] 34)=V176:=hV176.symm
         rw[←hV176] at g174 hx175 ho177
         rw[eV176]
         have z178:V157.heap.size<V176.heap.size:=by rw[hV176];simp
         clear hV176 eV176
         refine zs 4 rfl (fun K hK=>?_)
         refine wp_append_rd0 (.tmp 34) (.tmp 37) 22 rfl wo.heap.size 34 i0 _ 5 64 Tryz.underlying22 hi0 hz0 hz1 hz2 rfl (by decide) _ 0 _ rfl ho177 (some ad') 0 c' (scells OT) rfl (hOt.gr g174) (scells_one _) (by unfold maxLen;omega) (by omega) g174.size ?_
         intro v179 w180 ho181 gr182 _
         have g183:=Gr.grown g174 gr182 (fun j hj=>(ho177.lt j hj).1)
         have hx184:=Rd.grown hx175 gr182 (by intro ad hA hr;injection hA with hA;subst hA;injection hr with hr;exact hne hr)
         rw[Nat.zero_add,List.nil_append] at ho181
         clear gr182
         refine hK.out _ _ (fun hnz=>?s35) (fun _=>?r35)
         case s35=>exact g183
         clear hK K
         try simp only[Pu]
         refine zs 10 rfl (fun K hK=>?_)
         refine wp_append_rd0 (.tmp 38) (.tmp 43) 22 rfl wo.heap.size 34 i0 _ 5 64 Tryz.underlying22 hi0 hz0 hz1 hz2 rfl (by decide) _ 0 _ rfl ho181 (some ⟨V157.heap.size,0,none⟩) 1 1 (scells [x]) rfl hx184 (scells_one _) (by unfold maxLen;omega) (by omega) g183.size ?_
         intro v185 w186 ho187 gr188 _
         have g189:=Gr.grown g183 gr188 (fun j hj=>(ho181.lt j hj).1)
         rw[←scells_append] at ho187
         obtain ⟨AN,cN,hvN⟩:=own_form ho187
         subst hvN
         clear gr188
         refine hK.out _ _ (fun hnz=>?s36) (fun _=>?r36)
         case s36=>exact g189
         clear hK K
         try simp only[Pu]
         refine zs 11 rfl (fun K hK=>?_)
         go_simp
         refine hK.out _ _ (fun hnz=>?s37) (fun _=>?r37)
         case s37=>exact absurd rfl hnz
         clear hK K
         try simp only[Pu]
         refine wpAnyZ_done (by kernel_rfl) ?_ _
         go_wp2_with fail
         go_meet
         exact ⟨_,_,rfl,ho187,g189⟩
       ·
        have hx191:=Rl.new (W:=V) rfl 34 [x]
        have g190:=Gr.alloc hS0 (.cells (scells [x]).toArray 34)
        go_simp
        refine hK.out _ _ (fun hnz=>?s38) (fun _=>?r38)
        case s38=>exact g190
        clear hK K
        try simp only[Pu]
        obtain ⟨V192,hV192⟩:∃V192,V192=V.alloc (.cells (scells [x]).toArray 34):=⟨_,rfl⟩
        have eV192:V.alloc (.cells #[.string x.s.name, .int .i64 x.s.start, .int .i64 x.s.step, .slice x.A x.s.vals.length x.c, .int .i64 x.s.cons] 34)=V192:=hV192.symm
        rw[←hV192] at g190 hx191
        rw[eV192]
        have z193:V.heap.size<V192.heap.size:=by rw[hV192];simp
        clear hV192 eV192
        refine zs 0 rfl (fun K hK=>?_)
        have ho195:=own_empty V192 wo.heap.size g190.size 34 5
        have g194:=Gr.alloc g190 (.cells #[] 34)
        have hx197:=hx191.gr (Gr.alloc (Gr.refl _) (.cells #[] 34))
        have hne:V.heap.size≠V192.heap.size:=Nat.ne_of_lt z193
        go_simp
        refine hK.out _ _ (fun hnz=>?s39) (fun _=>?r39)
        case s39=>exact g194
        clear hK K
        try simp only[Pu]
        obtain ⟨V196,hV196⟩:∃V196,V196=V192.alloc (.cells #[] 34):=⟨_,rfl⟩
        rw[←hV196] at g194 ho195 hx197 ⊢
        clear hV196
        refine zs 4 rfl (fun K hK=>?_)
        refine wp_append_rd0 (.tmp 34) (.tmp 37) 22 rfl wo.heap.size 34 i0 _ 5 64 Tryz.underlying22 hi0 hz0 hz1 hz2 rfl (by decide) _ 0 _ rfl ho195 (some ad') 0 c' (scells OT) rfl (hOt.gr g194) (scells_one _) (by unfold maxLen;omega) (by omega) g194.size ?_
        intro v198 w199 ho200 gr201 _
        have g202:=Gr.grown g194 gr201 (fun j hj=>(ho195.lt j hj).1)
        have hx203:=Rd.grown hx197 gr201 (by intro ad hA hr;injection hA with hA;subst hA;injection hr with hr;exact hne hr)
        rw[Nat.zero_add,List.nil_append] at ho200
        clear gr201
        refine hK.out _ _ (fun hnz=>?s40) (fun _=>?r40)
        case s40=>exact g202
        clear hK K
        try simp only[Pu]
        refine zs 10 rfl (fun K hK=>?_)
        refine wp_append_rd0 (.tmp 38) (.tmp 43) 22 rfl wo.heap.size 34 i0 _ 5 64 Tryz.underlying22 hi0 hz0 hz1 hz2 rfl (by decide) _ 0 _ rfl ho200 (some ⟨V.heap.size,0,none⟩) 1 1 (scells [x]) rfl hx203 (scells_one _) (by unfold maxLen;omega) (by omega) g202.size ?_
        intro v204 w205 ho206 gr207 _
        have g208:=Gr.grown g202 gr207 (fun j hj=>(ho200.lt j hj).1)
        rw[←scells_append] at ho206
        obtain ⟨AN,cN,hvN⟩:=own_form ho206
        subst hvN
        clear gr207
        refine hK.out _ _ (fun hnz=>?s41) (fun _=>?r41)
        case s41=>exact g208
        clear hK K
        try simp only[Pu]
        refine zs 11 rfl (fun K hK=>?_)
        go_simp
        refine hK.out _ _ (fun hnz=>?s42) (fun _=>?r42)
        case s42=>exact absurd rfl hnz
        clear hK K
        try simp only[Pu]
        refine wpAnyZ_done (by kernel_rfl) ?_ _
        go_wp2_with fail
        go_meet
        exact ⟨_,_,rfl,ho206,g208⟩
      case rest=>
      obtain ⟨A8,c8,rfl,hown,g8⟩:=hcut
      have hOd8:=hOd.gr g8
      have hvl:=hown.lt
      have zb:=g8.size
      clear HX
      go_wp2_with
       (
        at_builtin
        go_loud (
        refine wpList_append_rd rfl (.tmp 45) (.tmp 48) 22 rfl wo.heap.size 34 i0 _ 5 64 Tryz.underlying22 hi0 hz0 hz1 hz2 rfl (by decide) _ (0+1) _ rfl hown (some ad') (k-0) (c'-0) (scells OD) rfl hOd8 (scells_one _) (by unfold maxLen;omega) (by omega) (by omega) ?_
        intro v9 w9 hown9 hgr9 _))
      have g9:Gr wo w9:=Gr.grown g8 hgr9 (fun j hj=>(hvl j hj).1)
      obtain ⟨A9,c9,hv9⟩:=own_form hown9
      subst hv9
      rw[←scells_append,show 0+1+(k-0)=k+1 by omega] at hown9
      have hcap9:=own_cap hown9
      have hrd9:=Rd.own hown9
      have gw9:=Gr.trans hgr g9
      have hlen9:(OT++[x]++OD).length=k+1:=by rw[HNX3.out,sortR_len,List.length_take];omega
      obtain ⟨ad9,hA9⟩:∃ad9,A9=some ad9:=by obtain ⟨ad9,h,_⟩:=hrd9.2 (by omega);exact ⟨ad9,h⟩
      subst hA9
      have hrl9:Rl w9 (some ad9) (OT++[x]++OD):=by unfold Rl;rw[hlen9];exact hrd9
      have HL9:=Lib.hid hlen9
      clear hlen9 hrd9 hgr9 hown hvl hown9 hOd8
      go_roundw
      case rel=>exact ⟨k+1,OT++[x]++OD,by omega,by go_num,gw9,HL9.out,HNX3, .inr ⟨by omega,_,_,val_slice (by omega),hcap9,hrl9⟩⟩
      case measure=>simp[intOf];omega
     ·
      obtain ⟨q,rfl⟩:∃q,m=q+1:=⟨m-1,by omega⟩
      have hqO:q<O.length:=by omega
      obtain ⟨y,hy⟩:∃y,O[q]=y:=⟨_,rfl⟩
      have hymem:y∈L:=by
       have h1:y∈O:=by rw[←hy];exact List.getElem_mem hqO
       rw[HO.out,sortR_mem] at h1
       exact List.mem_of_mem_take h1
      have hvy:=(hv _ hymem).gr hgr
      have hly:=HLE.out _ hymem
      obtain ⟨ad2,e2,hb2,hy0,hy1,hy2,hy3,hy4⟩:=hrO.at hqO
      injection e2 with e2
      subst e2
      rw[hy] at hy0 hy1 hy2 hy3 hy4
      have HF:Hid (∀W,Gr wr W→W.cell? (ad.add (k*5))=some (.string x.s.name)∧W.cell? ⟨(ad.add (k*5)).block,(ad.add (k*5)).off+1,none⟩=some (.int .i64 x.s.start)∧W.cell? ⟨(ad.add (k*5)).block,(ad.add (k*5)).off+2,none⟩=some (.int .i64 x.s.step)∧W.cell? ⟨(ad.add (k*5)).block,(ad.add (k*5)).off+3,none⟩=some (.slice x.A x.s.vals.length x.c)∧W.cell? ⟨(ad.add (k*5)).block,(ad.add (k*5)).off+4,none⟩=some (.int .i64 x.s.cons)∧W.cell? (ad'.add (q*5))=some (.string y.s.name)∧W.cell? ⟨(ad'.add (q*5)).block,(ad'.add (q*5)).off+1,none⟩=some (.int .i64 y.s.start)∧W.cell? ⟨(ad'.add (q*5)).block,(ad'.add (q*5)).off+2,none⟩=some (.int .i64 y.s.step)∧W.cell? ⟨(ad'.add (q*5)).block,(ad'.add (q*5)).off+3,none⟩=some (.slice y.A y.s.vals.length y.c)∧W.cell? ⟨(ad'.add (q*5)).block,(ad'.add (q*5)).off+4,none⟩=some (.int .i64 y.s.cons)):=Lib.hid (fun W hW=>by
       have gW:=Gr.trans gi0 hW
       exact ⟨(gW.cell (p:=ad.add (k*5)) (by rw[add_blk];exact hb)).trans hx0,(gW.cell (p:=⟨(ad.add (k*5)).block,(ad.add (k*5)).off+1,none⟩) (by show (ad.add (k*5)).block<_;rw[add_blk];exact hb)).trans hx1,(gW.cell (p:=⟨(ad.add (k*5)).block,(ad.add (k*5)).off+2,none⟩) (by show (ad.add (k*5)).block<_;rw[add_blk];exact hb)).trans hx2,(gW.cell (p:=⟨(ad.add (k*5)).block,(ad.add (k*5)).off+3,none⟩) (by show (ad.add (k*5)).block<_;rw[add_blk];exact hb)).trans hx3,(gW.cell (p:=⟨(ad.add (k*5)).block,(ad.add (k*5)).off+4,none⟩) (by show (ad.add (k*5)).block<_;rw[add_blk];exact hb)).trans hx4,(gW.cell (p:=ad'.add (q*5)) (by rw[add_blk];exact hb2)).trans hy0,(gW.cell (p:=⟨(ad'.add (q*5)).block,(ad'.add (q*5)).off+1,none⟩) (by show (ad'.add (q*5)).block<_;rw[add_blk];exact hb2)).trans hy1,(gW.cell (p:=⟨(ad'.add (q*5)).block,(ad'.add (q*5)).off+2,none⟩) (by show (ad'.add (q*5)).block<_;rw[add_blk];exact hb2)).trans hy2,(gW.cell (p:=⟨(ad'.add (q*5)).block,(ad'.add (q*5)).off+3,none⟩) (by show (ad'.add (q*5)).block<_;rw[add_blk];exact hb2)).trans hy3,(gW.cell (p:=⟨(ad'.add (q*5)).block,(ad'.add (q*5)).off+4,none⟩) (by show (ad'.add (q*5)).block<_;rw[add_blk];exact hb2)).trans hy4⟩)
      have hw1:IntKind.i64.wrap ((q:Int)+1-1)=q:=by rw[show (q:Int)+1-1=q by omega];exact IntWalk.i64_in _ (by omega)
      have hw2:IntKind.i64.wrap (q:Int)=q:=IntWalk.i64_in _ (by omega)
      have hq1:(0:Int)<(q:Int)+1:=by omega
      have hqk:(q:Int)<(k:Int):=by omega
      have hqk':q<k:=by omega
      have hq0:(0:Int)≤(q:Int):=by omega
      have hkL:(k:Int)<(L.length:Int):=by omega
      cases hbv:lt x y
      ·
       have HB:Hid (aheadB nm x.s.name y.s.name (ofR (rowF nm).by_ x.s.vals) (ofR (rowF nm).by_ y.s.vals)=false):=Lib.hid (by rw[←HLT.out,hbv])
       have HP2:Hid (posR lt x O k=q+1):=Lib.hid (by rw[HP.out];exact posR_no hqO (by rw[hy,hbv]))
       clear hy hbv hx0 hx1 hx2 hx3 hx4 hy0 hy1 hy2 hy3 hy4 HP hm0
       go_wp2
       refine region_R (by kernel_rfl) (by kernel_rfl) ?_
       iterate 7 (refine rv ?_;simp only[Pu])
       refine r_val (v:=?qv22) (by kernel_rfl) (fun W hW=>?qh22) ?qr22
       case qh22=>obtain ⟨x0,x1,x2,x3,x4,y0,y1,y2,y3,y4⟩:=HF.out W hW;go_light;go_simp;rfl
       simp only[Pu]
       iterate 4 (refine rv ?_;simp only[Pu])
       refine r_val (v:=?qv27) (by kernel_rfl) (fun W hW=>?qh27) ?qr27
       case qh27=>obtain ⟨x0,x1,x2,x3,x4,y0,y1,y2,y3,y4⟩:=HF.out W hW;go_light;go_simp;rfl
       simp only[Pu]
       refine r_call (v:= .bool (aheadB nm x.s.name y.s.name (ofR (rowF nm).by_ x.s.vals) (ofR (rowF nm).by_ y.s.vals))) (f:=?qf28) (args:=?qa28) (by kernel_rfl) (fun W hW=>?qh28) (fun W hW=>?qc28) ?qr28
       case qh28=>go_light;go_simp;constructor<;>rfl
       case qc28=>exact (ahead_any nm x y W hlx hly ((hvx.gr gi0).gr hW) ((hvy.gr gi0).gr hW)).mono (fun e w' h=>⟨h.1,Gr.trans hW h.2⟩)
       simp only[Pu]
       refine rv ?_;simp only[Pu]
       refine r_nil ?_
       intro w6 hg6
       rw[HB.out]
       have gi:=Gr.trans gi0 hg6
       obtain ⟨wi,hwi⟩:∃wi:World,wi=w6:=⟨_,rfl⟩
       subst hwi
       clear HF hw1 hw2 HB hg6 gi0 hvy hly
       obtain ⟨OT,hOT⟩:∃OT:List Sq,OT=O.take (q+1):=⟨_,rfl⟩
       obtain ⟨OD,hOD⟩:∃OD:List Sq,OD=O.drop (q+1):=⟨_,rfl⟩
       have hOt:Rd wo 5 (some ad') (q+1) (scells OT):=by rw[hOT];exact hrO.takes (by omega)
       have hOd:Rd wo 5 (if c'=(q+1) then some ad' else some (ad'.add ((q+1)*5))) (k-(q+1)) (scells OD):=by
        have h:=hrO.drop (m:=(q+1)) (c:=c') (by omega) (by omega)
        rw[hOl] at h
        rw[hOD];exact h
       have HNX3:Hid (OT++[x]++OD=sortR lt (L.take (k+1))):=Lib.hid (by
        rw[HNX.out,hOT,hOD];unfold insR;rw[hOl,HP2.out];simp)
       have hmc:((q+1):Int)≤(c':Int):=by omega
       have hmk:((q+1):Int)≤(k:Int):=by omega
       clear hOT hOD HNX HP2 hrO
       go_upto_region 8 with (fail)
       go_cut [8] from 34 to 45 (fun p wx=>∃(A':Option Addr) (c':Nat),p= .slice A' ((q+1)+1) c'∧wx.ownsRow wo.heap.size 34 5 (.slice A' ((q+1)+1) c') ((q+1)+1) (scells (OT++[x]))∧Gr wo wx)
       case first=>
        have hS0:Gr wo wi.drew:=Gr.drew gi
        obtain ⟨V,hV⟩:∃V,V=wi.drew:=⟨_,rfl⟩
        refine wp_region_Z 11 (fun W=>Gr wo W) (by kernel_rfl) ?_
        rw[←hV] at hS0 ⊢
        clear hV
        refine zt 1 rfl hS0 (fun W hS=>by go_simp;rfl) ?_
        refine zt 2 rfl hS0 (fun W hS=>by go_simp;rfl) ?_
        refine zt 3 rfl hS0 (fun W hS=>by go_simp;rfl) ?_
        refine zt 5 rfl hS0 (fun W hS=>by go_simp;rfl) ?_
        refine zt 6 rfl hS0 (fun W hS=>by go_simp;rfl) ?_
        refine zt 7 rfl hS0 (fun W hS=>by go_simp;rfl) ?_
        refine zt 8 rfl hS0 (fun W hS=>by have y:=HX.out W hS;obtain ⟨x0,x1,x2,x3,x4⟩:=y;go_simp;rfl) ?_
        refine wpAnyZ_ready (rs:=[0,9]) (by kernel_rfl) (by simp) ?_
        refine AllReadyZ.cons rfl (by rfl) (fun K hK=>?_) (AllReadyZ.cons rfl (by rfl) (fun K hK=>?_) AllReadyZ.nil)
        ·
         have ho210:=own_empty V wo.heap.size hS0.size 34 5
         have g209:=Gr.alloc hS0 (.cells #[] 34)
         go_simp
         refine hK.out _ _ (fun hnz=>?s50) (fun _=>?r50)
         case s50=>exact g209
         clear hK K
         try simp only[Pu]
         obtain ⟨V211,hV211⟩:∃V211,V211=V.alloc (.cells #[] 34):=⟨_,rfl⟩
         rw[←hV211] at g209 ho210 ⊢
         have z212:V.heap.size<V211.heap.size:=by rw[hV211];simp
         clear hV211
         refine wpAnyZ_ready (rs:=[4,9]) (by kernel_rfl) (by simp) ?_
         refine AllReadyZ.cons rfl (by rfl) (fun K hK=>?_) (AllReadyZ.cons rfl (by rfl) (fun K hK=>?_) AllReadyZ.nil)
         ·
          refine wp_append_rd0 (.tmp 34) (.tmp 37) 22 rfl wo.heap.size 34 i0 _ 5 64 Tryz.underlying22 hi0 hz0 hz1 hz2 rfl (by decide) _ 0 _ rfl ho210 (some ad') (q+1) c' (scells OT) rfl (hOt.gr g209) (scells_one _) (by unfold maxLen;omega) (by omega) g209.size ?_
          intro v213 w214 ho215 gr216 _
          have g217:=Gr.grown g209 gr216 (fun j hj=>(ho210.lt j hj).1)
          rw[Nat.zero_add,List.nil_append] at ho215
          clear gr216
          refine hK.out _ _ (fun hnz=>?s51) (fun _=>?r51)
          case s51=>exact g217
          clear hK K
          try simp only[Pu]
          refine zs 9 rfl (fun K hK=>?_)
          have hx219:=Rl.new (W:=w214) rfl 34 [x]
          have g218:=Gr.alloc g217 (.cells (scells [x]).toArray 34)
          have ho221:=ho215.alloc (.cells (scells [x]).toArray 34)
          go_simp
          refine hK.out _ _ (fun hnz=>?s52) (fun _=>?r52)
          case s52=>exact g218
          clear hK K
          try simp only[Pu]
          obtain ⟨V220,hV220⟩:∃V220,V220=w214.alloc (.cells (scells [x]).toArray 34):=⟨_,rfl⟩
          have eV220:w214.alloc (.cells #[.string x.s.name, .int .i64 x.s.start, .int .i64 x.s.step, .slice x.A x.s.vals.length x.c, .int .i64 x.s.cons] 34)=V220:=hV220.symm
          rw[←hV220] at g218 hx219 ho221
          rw[eV220]
          have z222:w214.heap.size<V220.heap.size:=by rw[hV220];simp
          clear hV220 eV220
          refine zs 10 rfl (fun K hK=>?_)
          refine wp_append_rd0 (.tmp 38) (.tmp 43) 22 rfl wo.heap.size 34 i0 _ 5 64 Tryz.underlying22 hi0 hz0 hz1 hz2 rfl (by decide) _ (q+1) _ rfl ho221 (some ⟨w214.heap.size,0,none⟩) 1 1 (scells [x]) rfl hx219 (scells_one _) (by unfold maxLen;omega) (by omega) g218.size ?_
          intro v223 w224 ho225 gr226 _
          have g227:=Gr.grown g218 gr226 (fun j hj=>(ho221.lt j hj).1)
          rw[←scells_append] at ho225
          obtain ⟨AN,cN,hvN⟩:=own_form ho225
          subst hvN
          clear gr226
          refine hK.out _ _ (fun hnz=>?s53) (fun _=>?r53)
          case s53=>exact g227
          clear hK K
          try simp only[Pu]
          refine zs 11 rfl (fun K hK=>?_)
          go_simp
          refine hK.out _ _ (fun hnz=>?s54) (fun _=>?r54)
          case s54=>exact absurd rfl hnz
          clear hK K
          try simp only[Pu]
          refine wpAnyZ_done (by kernel_rfl) ?_ _
          go_wp2_with fail
          go_meet
          exact ⟨_,_,rfl,ho225,g227⟩
         ·
          have hx229:=Rl.new (W:=V211) rfl 34 [x]
          have g228:=Gr.alloc g209 (.cells (scells [x]).toArray 34)
          have ho231:=ho210.alloc (.cells (scells [x]).toArray 34)
          have hne:V211.heap.size≠V.heap.size:=(Nat.ne_of_lt z212).symm
          go_simp
          refine hK.out _ _ (fun hnz=>?s55) (fun _=>?r55)
          case s55=>exact g228
          clear hK K
          try simp only[Pu]
          obtain ⟨V230,hV230⟩:∃V230,V230=V211.alloc (.cells (scells [x]).toArray 34):=⟨_,rfl⟩
          have eV230:V211.alloc (.cells #[.string x.s.name, .int .i64 x.s.start, .int .i64 x.s.step, .slice x.A x.s.vals.length x.c, .int .i64 x.s.cons] 34)=V230:=hV230.symm
          rw[←hV230] at g228 hx229 ho231
          rw[eV230]
          have z232:V211.heap.size<V230.heap.size:=by rw[hV230];simp
          clear hV230 eV230
          refine zs 4 rfl (fun K hK=>?_)
          refine wp_append_rd0 (.tmp 34) (.tmp 37) 22 rfl wo.heap.size 34 i0 _ 5 64 Tryz.underlying22 hi0 hz0 hz1 hz2 rfl (by decide) _ 0 _ rfl ho231 (some ad') (q+1) c' (scells OT) rfl (hOt.gr g228) (scells_one _) (by unfold maxLen;omega) (by omega) g228.size ?_
          intro v233 w234 ho235 gr236 _
          have g237:=Gr.grown g228 gr236 (fun j hj=>(ho231.lt j hj).1)
          have hx238:=Rd.grown hx229 gr236 (by intro ad hA hr;injection hA with hA;subst hA;injection hr with hr;exact hne hr)
          rw[Nat.zero_add,List.nil_append] at ho235
          clear gr236
          refine hK.out _ _ (fun hnz=>?s56) (fun _=>?r56)
          case s56=>exact g237
          clear hK K
          try simp only[Pu]
          refine zs 10 rfl (fun K hK=>?_)
          refine wp_append_rd0 (.tmp 38) (.tmp 43) 22 rfl wo.heap.size 34 i0 _ 5 64 Tryz.underlying22 hi0 hz0 hz1 hz2 rfl (by decide) _ (q+1) _ rfl ho235 (some ⟨V211.heap.size,0,none⟩) 1 1 (scells [x]) rfl hx238 (scells_one _) (by unfold maxLen;omega) (by omega) g237.size ?_
          intro v239 w240 ho241 gr242 _
          have g243:=Gr.grown g237 gr242 (fun j hj=>(ho235.lt j hj).1)
          rw[←scells_append] at ho241
          obtain ⟨AN,cN,hvN⟩:=own_form ho241
          subst hvN
          clear gr242
          refine hK.out _ _ (fun hnz=>?s57) (fun _=>?r57)
          case s57=>exact g243
          clear hK K
          try simp only[Pu]
          refine zs 11 rfl (fun K hK=>?_)
          go_simp
          refine hK.out _ _ (fun hnz=>?s58) (fun _=>?r58)
          case s58=>exact absurd rfl hnz
          clear hK K
          try simp only[Pu]
          refine wpAnyZ_done (by kernel_rfl) ?_ _
          go_wp2_with fail
          go_meet
          exact ⟨_,_,rfl,ho241,g243⟩
        ·
         have hx245:=Rl.new (W:=V) rfl 34 [x]
         have g244:=Gr.alloc hS0 (.cells (scells [x]).toArray 34)
         go_simp
         refine hK.out _ _ (fun hnz=>?s59) (fun _=>?r59)
         case s59=>exact g244
         clear hK K
         try simp only[Pu]
         obtain ⟨V246,hV246⟩:∃V246,V246=V.alloc (.cells (scells [x]).toArray 34):=⟨_,rfl⟩
         have eV246:V.alloc (.cells #[.string x.s.name, .int .i64 x.s.start, .int .i64 x.s.step, .slice x.A x.s.vals.length x.c, .int .i64 x.s.cons] 34)=V246:=hV246.symm
         rw[←hV246] at g244 hx245
         rw[eV246]
         have z247:V.heap.size<V246.heap.size:=by rw[hV246];simp
         clear hV246 eV246
         refine zs 0 rfl (fun K hK=>?_)
         have ho249:=own_empty V246 wo.heap.size g244.size 34 5
         have g248:=Gr.alloc g244 (.cells #[] 34)
         have hx251:=hx245.gr (Gr.alloc (Gr.refl _) (.cells #[] 34))
         have hne:V.heap.size≠V246.heap.size:=Nat.ne_of_lt z247
         go_simp
         refine hK.out _ _ (fun hnz=>?s60) (fun _=>?r60)
         case s60=>exact g248
         clear hK K
         try simp only[Pu]
         obtain ⟨V250,hV250⟩:∃V250,V250=V246.alloc (.cells #[] 34):=⟨_,rfl⟩
         rw[←hV250] at g248 ho249 hx251 ⊢
         clear hV250
         refine zs 4 rfl (fun K hK=>?_)
         refine wp_append_rd0 (.tmp 34) (.tmp 37) 22 rfl wo.heap.size 34 i0 _ 5 64 Tryz.underlying22 hi0 hz0 hz1 hz2 rfl (by decide) _ 0 _ rfl ho249 (some ad') (q+1) c' (scells OT) rfl (hOt.gr g248) (scells_one _) (by unfold maxLen;omega) (by omega) g248.size ?_
         intro v252 w253 ho254 gr255 _
         have g256:=Gr.grown g248 gr255 (fun j hj=>(ho249.lt j hj).1)
         have hx257:=Rd.grown hx251 gr255 (by intro ad hA hr;injection hA with hA;subst hA;injection hr with hr;exact hne hr)
         rw[Nat.zero_add,List.nil_append] at ho254
         clear gr255
         refine hK.out _ _ (fun hnz=>?s61) (fun _=>?r61)
         case s61=>exact g256
         clear hK K
         try simp only[Pu]
         refine zs 10 rfl (fun K hK=>?_)
         refine wp_append_rd0 (.tmp 38) (.tmp 43) 22 rfl wo.heap.size 34 i0 _ 5 64 Tryz.underlying22 hi0 hz0 hz1 hz2 rfl (by decide) _ (q+1) _ rfl ho254 (some ⟨V.heap.size,0,none⟩) 1 1 (scells [x]) rfl hx257 (scells_one _) (by unfold maxLen;omega) (by omega) g256.size ?_
         intro v258 w259 ho260 gr261 _
         have g262:=Gr.grown g256 gr261 (fun j hj=>(ho254.lt j hj).1)
         rw[←scells_append] at ho260
         obtain ⟨AN,cN,hvN⟩:=own_form ho260
         subst hvN
         clear gr261
         refine hK.out _ _ (fun hnz=>?s62) (fun _=>?r62)
         case s62=>exact g262
         clear hK K
         try simp only[Pu]
         refine zs 11 rfl (fun K hK=>?_)
         go_simp
         refine hK.out _ _ (fun hnz=>?s63) (fun _=>?r63)
         case s63=>exact absurd rfl hnz
         clear hK K
         try simp only[Pu]
         refine wpAnyZ_done (by kernel_rfl) ?_ _
         go_wp2_with fail
         go_meet
         exact ⟨_,_,rfl,ho260,g262⟩
       case rest=>
       obtain ⟨A8,c8,rfl,hown,g8⟩:=hcut
       have hOd8:=hOd.gr g8
       have hvl:=hown.lt
       have zb:=g8.size
       clear HX
       go_wp2_with
        (
         at_builtin
         go_loud (
         refine wpList_append_rd rfl (.tmp 45) (.tmp 48) 22 rfl wo.heap.size 34 i0 _ 5 64 Tryz.underlying22 hi0 hz0 hz1 hz2 rfl (by decide) _ ((q+1)+1) _ rfl hown (if c'=(q+1) then some ad' else some (ad'.add ((q+1)*5))) (k-(q+1)) (c'-(q+1)) (scells OD) rfl hOd8 (scells_one _) (by unfold maxLen;omega) (by omega) (by omega) ?_
         intro v9 w9 hown9 hgr9 _))
       have g9:Gr wo w9:=Gr.grown g8 hgr9 (fun j hj=>(hvl j hj).1)
       obtain ⟨A9,c9,hv9⟩:=own_form hown9
       subst hv9
       rw[←scells_append,show (q+1)+1+(k-(q+1))=k+1 by omega] at hown9
       have hcap9:=own_cap hown9
       have hrd9:=Rd.own hown9
       have gw9:=Gr.trans hgr g9
       have hlen9:(OT++[x]++OD).length=k+1:=by rw[HNX3.out,sortR_len,List.length_take];omega
       obtain ⟨ad9,hA9⟩:∃ad9,A9=some ad9:=by obtain ⟨ad9,h,_⟩:=hrd9.2 (by omega);exact ⟨ad9,h⟩
       subst hA9
       have hrl9:Rl w9 (some ad9) (OT++[x]++OD):=by unfold Rl;rw[hlen9];exact hrd9
       have HL9:=Lib.hid hlen9
       clear hlen9 hrd9 hgr9 hown hvl hown9 hOd8
       go_roundw
       case rel=>exact ⟨k+1,OT++[x]++OD,by omega,by go_num,gw9,HL9.out,HNX3, .inr ⟨by omega,_,_,val_slice (by omega),hcap9,hrl9⟩⟩
       case measure=>simp[intOf];omega
      ·
       have HB:Hid (aheadB nm x.s.name y.s.name (ofR (rowF nm).by_ x.s.vals) (ofR (rowF nm).by_ y.s.vals)=true):=Lib.hid (by rw[←HLT.out,hbv])
       have HP2:Hid (posR lt x O k=posR lt x O q):=Lib.hid (by rw[HP.out];exact posR_yes hqO (by rw[hy,hbv]))
       clear hy hbv hx0 hx1 hx2 hx3 hx4 hy0 hy1 hy2 hy3 hy4 HP hm0
       go_wp2
       refine region_R (by kernel_rfl) (by kernel_rfl) ?_
       iterate 7 (refine rv ?_;simp only[Pu])
       refine r_val (v:=?qv37) (by kernel_rfl) (fun W hW=>?qh37) ?qr37
       case qh37=>obtain ⟨x0,x1,x2,x3,x4,y0,y1,y2,y3,y4⟩:=HF.out W hW;go_light;go_simp;rfl
       simp only[Pu]
       iterate 4 (refine rv ?_;simp only[Pu])
       refine r_val (v:=?qv42) (by kernel_rfl) (fun W hW=>?qh42) ?qr42
       case qh42=>obtain ⟨x0,x1,x2,x3,x4,y0,y1,y2,y3,y4⟩:=HF.out W hW;go_light;go_simp;rfl
       simp only[Pu]
       refine r_call (v:= .bool (aheadB nm x.s.name y.s.name (ofR (rowF nm).by_ x.s.vals) (ofR (rowF nm).by_ y.s.vals))) (f:=?qf43) (args:=?qa43) (by kernel_rfl) (fun W hW=>?qh43) (fun W hW=>?qc43) ?qr43
       case qh43=>go_light;go_simp;constructor<;>rfl
       case qc43=>exact (ahead_any nm x y W hlx hly ((hvx.gr gi0).gr hW) ((hvy.gr gi0).gr hW)).mono (fun e w' h=>⟨h.1,Gr.trans hW h.2⟩)
       simp only[Pu]
       refine rv ?_;simp only[Pu]
       refine r_nil ?_
       intro w6 hg6
       rw[HB.out]
       have gi:=Gr.trans gi0 hg6
       clear HF hw1 hw2 HB hg6 gi0 hvy hly
       go_wp2
       go_roundw
       case rel=>exact ⟨q,by omega,by go_num,gi,HP2⟩
       case measure=>simp[intOf]
  ·
   have hkk:k=L.length:=by omega
   subst hkk
   have HO2:Hid (O=sortR lt L):=Lib.hid (by rw[HO.out,List.take_length])
   clear HO
   rcases hcase with ⟨h0,rfl⟩|⟨hk0,ad',c',rfl,hkc,hrO⟩
   ·
    have hO:O=[]:=List.eq_nil_of_length_eq_zero (by omega)
    subst hO
    go_wp2
    go_ret
    exact ⟨none,0,by rw[←HO2.out];rfl,by rw[←HO2.out];exact Nat.le_refl _,by rw[←HO2.out];exact Rd.nil _ _ _,hgr⟩
   ·
    go_wp2
    go_ret
    exact ⟨some ad',c',ret_slice (by rw[←HO2.out,hOl]),by rw[←HO2.out,hOl];exact hkc,by rw[←HO2.out];exact hrO,hgr⟩
end Go.Proofs.YtnphdacibageiaaGreat
