/- The statement SphereNames (layer 7) holds: a closed sentence: the error's number; more points than may be; what may not be. No condition. -/
import Derived.Test.YtmfedaakeeiolaaGreatRows
import Derived.ProofKit
import Derived.OpenShut
import Derived.ShutString
import Derived.ChangeOld
import Derived.Below
import Derived.Test.YtmfedaakeeiolaaGreatQk11
set_option linter.unnecessarySimpa false
set_option linter.unusedVariables false
set_option linter.unusedSimpArgs false
namespace Go.Proofs.YtmfedaakeeiolaaGreat
open Go.ChangeShapes Go.WideShapes Go.ChangeAt Go.RowKit
theorem own_knob:ownKnob Tryz.prog.godebug=none:=by kernel_rfl
theorem laid_out:laidOutB Tryz.prog=true:=by kernel_rfl
set_option maxRecDepth 100000 in
theorem SphereNames_lifted (os:Os) (started:os.Started) (H:Type) (enc:TypeId × Value→H) :
  ReturnsInHanded {} Tryz.checked os 14 .any (Rows.sphereNamesSpec.pre6 enc Tryz.prog Tryz.f14 Rows.sphereNamesRow.domain false) (Rows.sphereNamesSpec.post enc Tryz.prog Tryz.f14 false true false false):=by
 refine returnsInHanded_of_change (C:=Tryz.checked) own_knob started (by kernel_rfl) Tryz.func14
  (ChangeSpec.witness6 (enc:=enc) (C:=Tryz.checked) false ⟨#[],#[],[]⟩ 12 (by kernel_rfl) (by kernel_rfl) (by kernel_rfl) (by kernel_rfl)) ?_
 intro W base args ds gs before hval0 hW hcnd _
 have hval:∀ (j:Nat) t v,Tryz.f14.params[j]?=some t→args[j]?=some v→Value.okWide Tryz.prog W .any base t v:=hval0
 have hW':=hW
 obtain ⟨p,q,hA0,hV,rfl,hfz,hnd⟩:=hW
 have hA:DataW.TrodAll enc Tryz.prog W 0 (fun _=>true) true Tryz.f14.params.toList args.toList ds p:=hA0
 rw [Tryz.params14] at hA hval
 obtain ⟨hargs,rfl,rfl⟩:=trodAll_nil hA
 obtain rfl:args=#[]:=by cases args; simp_all
 obtain ⟨rfl,rfl⟩:=trodVars_none hV
 clear hA0 hval0
 refine (SphereNames_walk W).mono fun e W' ⟨he,bel⟩=>?_
 subst he
 exact ⟨_,rfl,_,_,_,[],_,[],hW',trodAll_mk1 (shut_bool Tryz.underlying4 _),trodAll_mk0,rfl,bel.frame _,fun h=>by cases h⟩
theorem and2 {a b:Bool} (h:a=true) (k:b=true):(a&&b)=true:=by rw [h,k]; rfl
theorem SphereNames_named:Tryz.pinned.checked.prog.funcNamed Rows.sphereNamesRow.func=some 14:=by kernel_rfl
set_option maxHeartbeats 8000000 in
theorem SphereNames_facts:joinedFacts Tryz.pinned.checked.prog 14 Tryz.f14 Rows.sphereNamesSpec Rows.sphereNamesRow=true:=by
 unfold joinedFacts
 repeat' (with_reducible apply and2)
 all_goals as_aux_lemma=>kernel_rfl
theorem SphereNames_inst:Tryz.f14.isInstance Tryz.pinned.checked.prog Rows.sphereNamesRow.origin Rows.sphereNamesRow.targs:=of_decide_eq_true (by kernel_rfl)
theorem SphereNames_wrap:Tryz.f14.isWrapper Tryz.pinned.checked.prog Rows.sphereNamesRow.wrapper Rows.sphereNamesRow.mainSum:=by unfold Func.isWrapper; first | (rw [if_pos (by decide +kernel)]; kernel_rfl) | (rw [if_neg (by decide +kernel)]; exact ⟨rfl,rfl⟩)
theorem SphereNames_over:Rows.sphereNamesRow.holds Tryz.pinned (OpenSpec.ofChange Rows.sphereNamesSpec) :=
 OpenClaim.holds_of_wide 14 Tryz.f14 rfl rfl rfl rfl rfl rfl rfl ⟨rfl,rfl,rfl,rfl,rfl⟩ rfl rfl rfl rfl rfl SphereNames_named Tryz.func14 SphereNames_facts SphereNames_inst SphereNames_wrap
  (fun os started H enc _=>SphereNames_lifted os started H enc)
theorem SphereNames_holds:Rows.SphereNamesSaid:=SphereNames_over
#print axioms SphereNames_holds
end Go.Proofs.YtmfedaakeeiolaaGreat
