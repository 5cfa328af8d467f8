/- MobEdges: whatever the input: true; the input reads as it did. -/
import Derived.Test.YtdiemgedlfnlmaaGreatRows
import Derived.ProofKit
import Derived.OpenShut
import Derived.ShutString
import Derived.ChangeOld
import Derived.Below
import Derived.Test.YtdiemgedlfnlmaaGreatVk11
set_option linter.unnecessarySimpa false
set_option linter.unusedVariables false
set_option linter.unusedSimpArgs false
namespace Go.Proofs.YtdiemgedlfnlmaaGreat
open Go.ChangeShapes Go.WideShapes Go.ChangeAt Go.RowKit
theorem own_knob:ownKnob Tryz.prog.godebug=none:=by kernel_rfl
theorem laid_out:laidOutB Tryz.prog=true:=by kernel_rfl
set_option maxRecDepth 100000 in
theorem MobEdges_lifted (os:Os) (started:os.Started) (H:Type) (enc:TypeId × Value→H) :
  ReturnsInHanded {} Tryz.checked os 10 .any (Rows.mobEdgesSpec.pre6 enc Tryz.prog Tryz.f10 Rows.mobEdgesRow.domain false) (Rows.mobEdgesSpec.post enc Tryz.prog Tryz.f10 false true false false):=by
 refine returnsInHanded_of_change (C:=Tryz.checked) own_knob started (by kernel_rfl) Tryz.func10
  (ChangeSpec.witness6 (enc:=enc) (C:=Tryz.checked) false ⟨#[],#[],[]⟩ 12 (by kernel_rfl) (by kernel_rfl) (by kernel_rfl) (by kernel_rfl)) ?_
 intro W base args ds gs before hval0 hW hcnd _
 have hval:∀ (j:Nat) t v,Tryz.f10.params[j]?=some t→args[j]?=some v→Value.okWide Tryz.prog W .any base t v:=hval0
 have hW':=hW
 obtain ⟨p,q,hA0,hV,rfl,hfz,hnd⟩:=hW
 have hA:DataW.TrodAll enc Tryz.prog W 0 (fun _=>true) true Tryz.f10.params.toList args.toList ds p:=hA0
 rw [Tryz.params10] at hA hval
 obtain ⟨hargs,rfl,rfl⟩:=trodAll_nil hA
 obtain rfl:args=#[]:=by cases args; simp_all
 obtain ⟨rfl,rfl⟩:=trodVars_none hV
 clear hA0 hval0
 refine (MobEdges_walk  W).mono fun e W' ⟨he,bel⟩=>?_
 subst he
 exact ⟨_,rfl,_,_,_,[],_,[],hW',trodAll_mk1 (shut_bool Tryz.underlying4 _),trodAll_mk0,rfl,bel.frame _,fun h=>by cases h⟩
theorem and2 {a b:Bool} (h:a=true) (k:b=true):(a&&b)=true:=by rw [h,k]; rfl
theorem MobEdges_named:Tryz.pinned.checked.prog.funcNamed Rows.mobEdgesRow.func=some 10:=by kernel_rfl
set_option maxHeartbeats 8000000 in
theorem MobEdges_facts:joinedFacts Tryz.pinned.checked.prog 10 Tryz.f10 Rows.mobEdgesSpec Rows.mobEdgesRow=true:=by
 unfold joinedFacts
 repeat' (with_reducible apply and2)
 all_goals as_aux_lemma=>kernel_rfl
theorem MobEdges_inst:Tryz.f10.isInstance Tryz.pinned.checked.prog Rows.mobEdgesRow.origin Rows.mobEdgesRow.targs:=of_decide_eq_true (by kernel_rfl)
theorem MobEdges_wrap:Tryz.f10.isWrapper Tryz.pinned.checked.prog Rows.mobEdgesRow.wrapper Rows.mobEdgesRow.mainSum:=by unfold Func.isWrapper; first | (rw [if_pos (by decide +kernel)]; kernel_rfl) | (rw [if_neg (by decide +kernel)]; exact ⟨rfl,rfl⟩)
theorem MobEdges_over:Rows.mobEdgesRow.holds Tryz.pinned (OpenSpec.ofChange Rows.mobEdgesSpec) :=
 OpenClaim.holds_of_wide 10 Tryz.f10 rfl rfl rfl rfl rfl rfl rfl ⟨rfl,rfl,rfl,rfl,rfl⟩ rfl rfl rfl rfl rfl MobEdges_named Tryz.func10 MobEdges_facts MobEdges_inst MobEdges_wrap
  (fun os started H enc _=>MobEdges_lifted os started H enc)
theorem MobEdges_holds:Rows.MobEdgesSaid:=MobEdges_over
#print axioms MobEdges_holds
end Go.Proofs.YtdiemgedlfnlmaaGreat
