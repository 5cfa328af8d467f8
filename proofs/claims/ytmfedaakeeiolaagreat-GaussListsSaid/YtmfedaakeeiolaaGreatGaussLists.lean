/- The statement GaussLists (layer 4) holds of every input: any numbers together, the sum, the product, or the refusal; they stay. No condition. -/
import Derived.Test.YtmfedaakeeiolaaGreatRows
import Derived.Test.YtmfedaakeeiolaaGreatPk14
set_option linter.unnecessarySimpa false
set_option linter.unusedVariables false
set_option linter.unusedSimpArgs false
namespace Go.Proofs.YtmfedaakeeiolaaGreat
open Go.ChangeShapes Go.WideShapes Go.ChangeAt Go.RowKit
theorem own_knob:ownKnob Tryz.prog.godebug=none:=by kernel_rfl
theorem laid_out:laidOutB Tryz.prog=true:=by kernel_rfl
set_option maxRecDepth 100000 in
theorem GaussLists_lifted (os:Os) (started:os.Started) (H:Type) (enc:TypeId × Value→H) :
  ReturnsInHanded {} Tryz.checked os 8 .any (Rows.gaussListsSpec.pre6 enc Tryz.prog Tryz.f8 Rows.gaussListsRow.domain false) (Rows.gaussListsSpec.post enc Tryz.prog Tryz.f8 false true false false):=by
 refine returnsInHanded_of_change (C:=Tryz.checked) own_knob started (by kernel_rfl) Tryz.func8
  (ChangeSpec.witness6 (enc:=enc) (C:=Tryz.checked) false ⟨#[],#[.slice none 0 0],[]⟩ 12 (by kernel_rfl) (by kernel_rfl) (by kernel_rfl) (by kernel_rfl)) ?_
 intro W base args ds gs before hval0 hW hcnd _
 have hval:∀ (j:Nat) t v,Tryz.f8.params[j]?=some t→args[j]?=some v→Value.okWide Tryz.prog W .any base t v:=hval0
 have hW':=hW
 obtain ⟨p,q,hA0,hV,rfl,hfz,hnd⟩:=hW
 have hA:DataW.TrodAll enc Tryz.prog W 0 (fun _=>true) true Tryz.f8.params.toList args.toList ds p:=hA0
 rw [Tryz.params8] at hA hval
 obtain ⟨v0,vs0,d0,ds0,p0,q0,hargs,rfl,rfl,h0,r0⟩:=trodAll_cons hA
 obtain ⟨rfl,rfl,rfl⟩:=trodAll_nil r0
 obtain rfl:args=#[v0]:=by cases args; simp_all
 obtain ⟨rfl,rfl⟩:=trodVars_none hV
 have k0:=h0
 have lt0:∀ x∈p0,x.block<W.heap.size:=by obtain ⟨m,hm⟩:=k0; exact DataW.trod_lt m _ _ _ hm
 obtain ⟨g1,n1,Q1,rfl,hn1,hr1⟩:=open_gauss_row (hval 0 _ v0 rfl rfl) h0
 clear hA0 hval0
 refine (GaussLists_walk g1 n1 Q1 W hr1).mono fun e W' ⟨he,bel⟩=>?_
 subst he
 exact ⟨_,rfl,_,_,_,[],_,[],hW',trodAll_mk1 (shut_bool Tryz.underlying4 _),(trodAll_cons_mk (Below.trod laid_out (by kernel_rfl) (of_decide_eq_true (by kernel_rfl)) k0 bel lt0) trodAll_mk0),rfl,bel.frame _,fun h=>by cases h⟩
theorem and2 {a b:Bool} (h:a=true) (k:b=true):(a&&b)=true:=by rw [h,k]; rfl
theorem GaussLists_named:Tryz.pinned.checked.prog.funcNamed Rows.gaussListsRow.func=some 8:=by kernel_rfl
set_option maxHeartbeats 8000000 in
theorem GaussLists_facts:joinedFacts Tryz.pinned.checked.prog 8 Tryz.f8 Rows.gaussListsSpec Rows.gaussListsRow=true:=by
 unfold joinedFacts
 repeat' (with_reducible apply and2)
 all_goals as_aux_lemma=>kernel_rfl
theorem GaussLists_inst:Tryz.f8.isInstance Tryz.pinned.checked.prog Rows.gaussListsRow.origin Rows.gaussListsRow.targs:=of_decide_eq_true (by kernel_rfl)
theorem GaussLists_wrap:Tryz.f8.isWrapper Tryz.pinned.checked.prog Rows.gaussListsRow.wrapper Rows.gaussListsRow.mainSum:=by unfold Func.isWrapper; first | (rw [if_pos (by decide +kernel)]; kernel_rfl) | (rw [if_neg (by decide +kernel)]; exact ⟨rfl,rfl⟩)
theorem GaussLists_over:Rows.gaussListsRow.holds Tryz.pinned (OpenSpec.ofChange Rows.gaussListsSpec) :=
 OpenClaim.holds_of_wide 8 Tryz.f8 rfl rfl rfl rfl rfl rfl rfl ⟨rfl,rfl,rfl,rfl,rfl⟩ rfl rfl rfl rfl rfl GaussLists_named Tryz.func8 GaussLists_facts GaussLists_inst GaussLists_wrap
  (fun os started H enc _=>GaussLists_lifted os started H enc)
theorem GaussLists_holds:Rows.GaussListsSaid:=GaussLists_over
#print axioms GaussLists_holds
end Go.Proofs.YtmfedaakeeiolaaGreat
