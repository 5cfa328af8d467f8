/- SphereOne: whatever the input: true; the input reads as it did. -/
import Derived.Test.YtdiemgedlfnlmaaGreatRows
import Derived.Test.YtdiemgedlfnlmaaGreatTk12
set_option linter.unnecessarySimpa false
set_option linter.unusedVariables false
set_option linter.unusedSimpArgs false
namespace Go.Proofs.YtdiemgedlfnlmaaGreat
open Go.ChangeShapes Go.WideShapes Go.ChangeAt Go.RowKit
theorem own_knob:ownKnob Tryz.prog.godebug=none:=by kernel_rfl
theorem laid_out:laidOutB Tryz.prog=true:=by kernel_rfl
set_option maxRecDepth 100000 in
theorem SphereOne_lifted (os:Os) (started:os.Started) (H:Type) (enc:TypeId × Value→H) :
  ReturnsInHanded {} Tryz.checked os 5 .any (Rows.sphereOneSpec.pre6 enc Tryz.prog Tryz.f5 Rows.sphereOneRow.domain false) (Rows.sphereOneSpec.post enc Tryz.prog Tryz.f5 false true false false):=by
 refine returnsInHanded_of_change (C:=Tryz.checked) own_knob started (by kernel_rfl) Tryz.func5
  (ChangeSpec.witness6 (enc:=enc) (C:=Tryz.checked) false ⟨#[],#[.agg #[.bool false,.bool false,.string ⟨#[]⟩,.bool false,.string ⟨#[]⟩,.bool false,.string ⟨#[]⟩,.bool false,.string ⟨#[]⟩]],[]⟩ 12 (by kernel_rfl) (by kernel_rfl) (by kernel_rfl) (by kernel_rfl)) ?_
 intro W base args ds gs before hval0 hW hcnd _
 have hval:∀ (j:Nat) t v,Tryz.f5.params[j]?=some t→args[j]?=some v→Value.okWide Tryz.prog W .any base t v:=hval0
 have hW':=hW
 obtain ⟨p,q,hA0,hV,rfl,hfz,hnd⟩:=hW
 have hA:DataW.TrodAll enc Tryz.prog W 0 (fun _=>true) true Tryz.f5.params.toList args.toList ds p:=hA0
 rw [Tryz.params5] at hA hval
 obtain ⟨v0,vs0,d0,ds0,p0,q0,hargs,rfl,rfl,h0,r0⟩:=trodAll_cons hA
 obtain ⟨rfl,rfl,rfl⟩:=trodAll_nil r0
 obtain rfl:args=#[v0]:=by cases args; simp_all
 obtain ⟨rfl,rfl⟩:=trodVars_none hV
 have k0:=h0
 have lt0:∀ x∈p0,x.block<W.heap.size:=by obtain ⟨m,hm⟩:=k0; exact DataW.trod_lt m _ _ _ hm
 obtain ⟨i1_0,x1_0,y1_0,rfl,o1_0⟩:=open_pt (hval 0 _ v0 rfl rfl) h0
 clear hA0 hval0
 refine (SphereOne_walk ⟨i1_0,x1_0,y1_0⟩ o1_0 W).mono fun e W' ⟨he,bel⟩=>?_
 subst he
 exact ⟨_,rfl,_,_,_,[],_,[],hW',trodAll_mk1 (shut_bool Tryz.underlying4 _),(trodAll_cons_mk (Below.trod laid_out (by kernel_rfl) (of_decide_eq_true (by kernel_rfl)) k0 bel lt0) trodAll_mk0),rfl,bel.frame _,fun h=>by cases h⟩
theorem and2 {a b:Bool} (h:a=true) (k:b=true):(a&&b)=true:=by rw [h,k]; rfl
theorem SphereOne_named:Tryz.pinned.checked.prog.funcNamed Rows.sphereOneRow.func=some 5:=by kernel_rfl
set_option maxHeartbeats 8000000 in
theorem SphereOne_facts:joinedFacts Tryz.pinned.checked.prog 5 Tryz.f5 Rows.sphereOneSpec Rows.sphereOneRow=true:=by
 unfold joinedFacts
 repeat' (with_reducible apply and2)
 all_goals as_aux_lemma=>kernel_rfl
theorem SphereOne_inst:Tryz.f5.isInstance Tryz.pinned.checked.prog Rows.sphereOneRow.origin Rows.sphereOneRow.targs:=of_decide_eq_true (by kernel_rfl)
theorem SphereOne_wrap:Tryz.f5.isWrapper Tryz.pinned.checked.prog Rows.sphereOneRow.wrapper Rows.sphereOneRow.mainSum:=by unfold Func.isWrapper; first | (rw [if_pos (by decide +kernel)]; kernel_rfl) | (rw [if_neg (by decide +kernel)]; exact ⟨rfl,rfl⟩)
theorem SphereOne_over:Rows.sphereOneRow.holds Tryz.pinned (OpenSpec.ofChange Rows.sphereOneSpec) :=
 OpenClaim.holds_of_wide 5 Tryz.f5 rfl rfl rfl rfl rfl rfl rfl ⟨rfl,rfl,rfl,rfl,rfl⟩ rfl rfl rfl rfl rfl SphereOne_named Tryz.func5 SphereOne_facts SphereOne_inst SphereOne_wrap
  (fun os started H enc _=>SphereOne_lifted os started H enc)
theorem SphereOne_holds:Rows.SphereOneSaid:=SphereOne_over
#print axioms SphereOne_holds
end Go.Proofs.YtdiemgedlfnlmaaGreat
