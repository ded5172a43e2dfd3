/- WhisperPlays is proved: of every header and script each answer, and each byte of the file, are the same on both sides. No condition: every input of the parameters' types. -/
import Derived.Test.YtoncapkmaeghfaaGreatRunLwCrt
import Derived.Test.YtoncapkmaeghfaaGreatRunWiRow
set_option linter.all false
set_option maxRecDepth 1000000
set_option maxHeartbeats 12800000
namespace Go.Proofs.YtoncapkmaeghfaaGreat
section
namespace whisperPlays
open Go.ChangeShapes Go.WideShapes Go.ChangeAt Go.RowKit
theorem lifted (os:Os) (started:os.Started) (H:Type) (enc:TypeId×Value→H) :
  ReturnsInHanded {} Tryz.checked os 3 .any (Rows.whisperPlaysSpec.pre6 enc Tryz.prog Tryz.f3 Rows.whisperPlaysRow.domain false) (Rows.whisperPlaysSpec.post enc Tryz.prog Tryz.f3 false true false false):=by
 refine returnsInHanded_of_change (C:=Tryz.checked) own_knob started (by kernel_rfl) Tryz.func3
  (ChangeSpec.witness6 (enc:=enc) (C:=Tryz.checked) false ⟨#[], #[.agg #[.int .i64 0, .int .i64 0, .slice none 0 0], .slice none 0 0],[]⟩ 8 (by kernel_rfl) (by kernel_rfl) (by kernel_rfl) (by kernel_rfl)) ?_
 intro W base args ds gs before hval0 hW hcnd _
 have hval:∀(j:Nat) t v,Tryz.f3.params[j]?=some t→args[j]?=some v→Value.okWide Tryz.prog W .any base t v:=hval0
 have hW':=hW
 obtain ⟨p,q,hA0,hV,rfl,hfz,hnd⟩:=hW
 have hA:DataW.TrodAll enc Tryz.prog W 0 (fun _=>true) true Tryz.f3.params.toList args.toList ds p:=hA0
 rw[Tryz.params3] at hA hval
 obtain ⟨v0,vs0,d0,ds0,p0,q0,hargs,rfl,rfl,h0,r0⟩:=trodAll_cons hA
 obtain ⟨v1,vs1,d1,ds1,p1,q1,rfl,rfl,rfl,h1,r1⟩:=trodAll_cons r0
 obtain ⟨rfl,rfl,rfl⟩:=trodAll_nil r1
 obtain rfl:args= #[v0,v1]:=by cases args;simp_all
 obtain ⟨rfl,rfl⟩:=trodVars_none hV
 have k0:=h0
 have lt0:∀x∈p0,x.block<W.heap.size:=by obtain ⟨m,hm⟩:=k0;exact DataW.trod_lt m _ _ _ hm
 have k1:=h1
 have lt1:∀x∈p1,x.block<W.heap.size:=by obtain ⟨m,hm⟩:=k1;exact DataW.trod_lt m _ _ _ hm
 obtain ⟨g0,x0,A0,a0,c0,rfl,l0,m0,r'0⟩:=open_header (hval 0 24 v0 rfl rfl) h0
 obtain ⟨A1,a1,c1,rfl,l1,m1,r'1,w1⟩:=open_acts (hval 1 25 v1 rfl rfl) h1
 clear hA0 hval0
 refine (law_WhisperPlays g0 x0 A0 c0 a0 A1 c1 a1 W (fun h=>r'0 h) l0 r'1 (fun k hk=>by obtain ⟨L,e,h⟩:=(w1 k hk).2.2;exact ⟨L,e,fun h0=>h h0⟩)).mono fun e W' ⟨he,bel⟩=>?_
 subst he
 exact ⟨_,rfl,_,_,_,[],_,[],hW',trodAll_mk1 (shut_bool Tryz.underlying4 _),(trodAll_cons_mk (Below.trod laid_out (by kernel_rfl) (of_decide_eq_true (by kernel_rfl)) k0 bel lt0) (trodAll_cons_mk (Below.trod laid_out (by kernel_rfl) (of_decide_eq_true (by kernel_rfl)) k1 bel lt1) trodAll_mk0)),rfl,Below.frame bel _,fun h=>by cases h⟩
theorem closed:joinedFacts Tryz.prog 3 Tryz.f3 Rows.whisperPlaysSpec Rows.whisperPlaysRow=true:=by
 unfold joinedFacts
 simp only[Bool.and_eq_true]
 repeat' apply And.intro
 all_goals (as_aux_lemma=>kernel_rfl)
theorem named:Tryz.prog.funcNamed Rows.whisperPlaysRow.func=some 3:=by kernel_rfl
theorem instance_:Tryz.f3.isInstance Tryz.prog Rows.whisperPlaysRow.origin Rows.whisperPlaysRow.targs:=of_decide_eq_true (by kernel_rfl)
theorem whisperPlays_holds:Rows.WhisperPlaysSaid:=
 OpenClaim.holds_of_wide 3 Tryz.f3 rfl rfl rfl rfl rfl rfl rfl ⟨rfl,rfl,rfl,rfl,rfl⟩ rfl rfl rfl rfl rfl named Tryz.func3 closed
  instance_ (by unfold Func.isWrapper;first|(rw[if_pos (by decide +kernel)];kernel_rfl)|(rw[if_neg (by decide +kernel)];exact ⟨rfl,rfl⟩))
  (fun os started H enc _=>lifted os started H enc)
#print axioms whisperPlays_holds
end whisperPlays
end
end Go.Proofs.YtoncapkmaeghfaaGreat
