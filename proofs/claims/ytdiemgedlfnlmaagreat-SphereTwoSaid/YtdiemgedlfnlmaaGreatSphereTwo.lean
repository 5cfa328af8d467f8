/- The statement SphereTwo (layer 7) holds of every input: of any two points, that may be or not, the order and the chord are as the document says, or refused. No condition. -/
import Derived.Test.YtdiemgedlfnlmaaGreatRows
import Derived.Test.YtdiemgedlfnlmaaGreatPk12
set_option linter.unnecessarySimpa false
set_option linter.unusedVariables false
set_option linter.unusedSimpArgs false
namespace Go.Proofs.YtdiemgedlfnlmaaGreat
open Go.ChangeShapes Go.WideShapes Go.ChangeAt Go.RowKit
theorem own_knob:ownKnob Tryz.prog.godebug=none:=by kernel_rfl
theorem laid_out:laidOutB Tryz.prog=true:=by kernel_rfl
set_option maxRecDepth 100000 in
theorem SphereTwo_lifted (os:Os) (started:os.Started) (H:Type) (enc:TypeId × Value→H) :
  ReturnsInHanded {} Tryz.checked os 4 .any (Rows.sphereTwoSpec.pre6 enc Tryz.prog Tryz.f4 Rows.sphereTwoRow.domain false) (Rows.sphereTwoSpec.post enc Tryz.prog Tryz.f4 false true false false):=by
 refine returnsInHanded_of_change (C:=Tryz.checked) own_knob started (by kernel_rfl) Tryz.func4
  (ChangeSpec.witness6 (enc:=enc) (C:=Tryz.checked) false ⟨#[],#[.agg #[.bool false,.bool false,.string ⟨#[]⟩,.bool false,.string ⟨#[]⟩,.bool false,.string ⟨#[]⟩,.bool false,.string ⟨#[]⟩],.agg #[.bool false,.bool false,.string ⟨#[]⟩,.bool false,.string ⟨#[]⟩,.bool false,.string ⟨#[]⟩,.bool false,.string ⟨#[]⟩]],[]⟩ 12 (by kernel_rfl) (by kernel_rfl) (by kernel_rfl) (by kernel_rfl)) ?_
 intro W base args ds gs before hval0 hW hcnd _
 have hval:∀ (j:Nat) t v,Tryz.f4.params[j]?=some t→args[j]?=some v→Value.okWide Tryz.prog W .any base t v:=hval0
 have hW':=hW
 obtain ⟨p,q,hA0,hV,rfl,hfz,hnd⟩:=hW
 have hA:DataW.TrodAll enc Tryz.prog W 0 (fun _=>true) true Tryz.f4.params.toList args.toList ds p:=hA0
 rw [Tryz.params4] at hA hval
 obtain ⟨v0,vs0,d0,ds0,p0,q0,hargs,rfl,rfl,h0,r0⟩:=trodAll_cons hA
 obtain ⟨v1,vs1,d1,ds1,p1,q1,rfl,rfl,rfl,h1,r1⟩:=trodAll_cons r0
 obtain ⟨rfl,rfl,rfl⟩:=trodAll_nil r1
 obtain rfl:args=#[v0,v1]:=by cases args; simp_all
 obtain ⟨rfl,rfl⟩:=trodVars_none hV
 have k0:=h0
 have lt0:∀ x∈p0,x.block<W.heap.size:=by obtain ⟨m,hm⟩:=k0; exact DataW.trod_lt m _ _ _ hm
 have k1:=h1
 have lt1:∀ x∈p1,x.block<W.heap.size:=by obtain ⟨m,hm⟩:=k1; exact DataW.trod_lt m _ _ _ hm
 obtain ⟨i1_0,x1_0,y1_0,rfl,o1_0⟩:=open_pt (hval 0 _ v0 rfl rfl) h0
 obtain ⟨i2_0,x2_0,y2_0,rfl,o2_0⟩:=open_pt (hval 1 _ v1 rfl rfl) h1
 clear hA0 hval0
 refine (SphereTwo_walk ⟨i1_0,x1_0,y1_0⟩ ⟨i2_0,x2_0,y2_0⟩ o1_0 o2_0 W).mono fun e W' ⟨he,bel⟩=>?_
 subst he
 exact ⟨_,rfl,_,_,_,[],_,[],hW',trodAll_mk1 (shut_bool Tryz.underlying4 _),(trodAll_cons_mk (Below.trod laid_out (by kernel_rfl) (of_decide_eq_true (by kernel_rfl)) k0 bel lt0) (trodAll_cons_mk (Below.trod laid_out (by kernel_rfl) (of_decide_eq_true (by kernel_rfl)) k1 bel lt1) trodAll_mk0)),rfl,bel.frame _,fun h=>by cases h⟩
theorem and2 {a b:Bool} (h:a=true) (k:b=true):(a&&b)=true:=by rw [h,k]; rfl
theorem SphereTwo_named:Tryz.pinned.checked.prog.funcNamed Rows.sphereTwoRow.func=some 4:=by kernel_rfl
set_option maxHeartbeats 8000000 in
theorem SphereTwo_facts:joinedFacts Tryz.pinned.checked.prog 4 Tryz.f4 Rows.sphereTwoSpec Rows.sphereTwoRow=true:=by
 unfold joinedFacts
 repeat' (with_reducible apply and2)
 all_goals as_aux_lemma=>kernel_rfl
theorem SphereTwo_inst:Tryz.f4.isInstance Tryz.pinned.checked.prog Rows.sphereTwoRow.origin Rows.sphereTwoRow.targs:=of_decide_eq_true (by kernel_rfl)
theorem SphereTwo_wrap:Tryz.f4.isWrapper Tryz.pinned.checked.prog Rows.sphereTwoRow.wrapper Rows.sphereTwoRow.mainSum:=by unfold Func.isWrapper; first | (rw [if_pos (by decide +kernel)]; kernel_rfl) | (rw [if_neg (by decide +kernel)]; exact ⟨rfl,rfl⟩)
theorem SphereTwo_over:Rows.sphereTwoRow.holds Tryz.pinned (OpenSpec.ofChange Rows.sphereTwoSpec) :=
 OpenClaim.holds_of_wide 4 Tryz.f4 rfl rfl rfl rfl rfl rfl rfl ⟨rfl,rfl,rfl,rfl,rfl⟩ rfl rfl rfl rfl rfl SphereTwo_named Tryz.func4 SphereTwo_facts SphereTwo_inst SphereTwo_wrap
  (fun os started H enc _=>SphereTwo_lifted os started H enc)
theorem SphereTwo_holds:Rows.SphereTwoSaid:=SphereTwo_over
#print axioms SphereTwo_holds
end Go.Proofs.YtdiemgedlfnlmaaGreat
