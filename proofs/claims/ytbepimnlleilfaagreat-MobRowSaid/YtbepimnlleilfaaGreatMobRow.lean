/- The statement MobRow (layer 8) holds of every input: any maps one behind the other, and each undone: as the document says. No condition. -/
import Derived.Test.YtbepimnlleilfaaGreatRows
import Derived.Test.YtbepimnlleilfaaGreatJk14
set_option linter.unnecessarySimpa false
set_option linter.unusedVariables false
set_option linter.unusedSimpArgs false
namespace Go.Proofs.YtbepimnlleilfaaGreat
open Go.ChangeShapes Go.WideShapes Go.ChangeAt Go.RowKit
theorem own_knob:ownKnob Tryz.prog.godebug=none:=by kernel_rfl
theorem laid_out:laidOutB Tryz.prog=true:=by kernel_rfl
set_option maxRecDepth 100000 in
theorem MobRow_lifted (os:Os) (started:os.Started) (H:Type) (enc:TypeId × Value→H) :
  ReturnsInHanded {} Tryz.checked os 7 .any (Rows.mobRowSpec.pre6 enc Tryz.prog Tryz.f7 Rows.mobRowRow.domain false) (Rows.mobRowSpec.post enc Tryz.prog Tryz.f7 false true false false):=by
 refine returnsInHanded_of_change (C:=Tryz.checked) own_knob started (by kernel_rfl) Tryz.func7
  (ChangeSpec.witness6 (enc:=enc) (C:=Tryz.checked) false ⟨#[],#[.slice none 0 0],[]⟩ 12 (by kernel_rfl) (by kernel_rfl) (by kernel_rfl) (by kernel_rfl)) ?_
 intro W base args ds gs before hval0 hW hcnd _
 have hval:∀ (j:Nat) t v,Tryz.f7.params[j]?=some t→args[j]?=some v→Value.okWide Tryz.prog W .any base t v:=hval0
 have hW':=hW
 obtain ⟨p,q,hA0,hV,rfl,hfz,hnd⟩:=hW
 have hA:DataW.TrodAll enc Tryz.prog W 0 (fun _=>true) true Tryz.f7.params.toList args.toList ds p:=hA0
 rw [Tryz.params7] at hA hval
 obtain ⟨v0,vs0,d0,ds0,p0,q0,hargs,rfl,rfl,h0,r0⟩:=trodAll_cons hA
 obtain ⟨rfl,rfl,rfl⟩:=trodAll_nil r0
 obtain rfl:args=#[v0]:=by cases args; simp_all
 obtain ⟨rfl,rfl⟩:=trodVars_none hV
 have k0:=h0
 have lt0:∀ x∈p0,x.block<W.heap.size:=by obtain ⟨m,hm⟩:=k0; exact DataW.trod_lt m _ _ _ hm
 obtain ⟨g1,n1,Q1,rfl,hn1,hr1⟩:=open_mob_row (hval 0 _ v0 rfl rfl) h0
 clear hA0 hval0
 refine (MobRow_walk g1 n1 Q1 W hn1 hr1).mono fun e W' ⟨he,bel⟩=>?_
 subst he
 exact ⟨_,rfl,_,_,_,[],_,[],hW',trodAll_mk1 (shut_bool Tryz.underlying4 _),(trodAll_cons_mk (Below.trod laid_out (by kernel_rfl) (of_decide_eq_true (by kernel_rfl)) k0 bel lt0) trodAll_mk0),rfl,bel.frame _,fun h=>by cases h⟩
theorem and2 {a b:Bool} (h:a=true) (k:b=true):(a&&b)=true:=by rw [h,k]; rfl
theorem MobRow_named:Tryz.pinned.checked.prog.funcNamed Rows.mobRowRow.func=some 7:=by kernel_rfl
set_option maxHeartbeats 8000000 in
theorem MobRow_facts:joinedFacts Tryz.pinned.checked.prog 7 Tryz.f7 Rows.mobRowSpec Rows.mobRowRow=true:=by
 unfold joinedFacts
 repeat' (with_reducible apply and2)
 all_goals as_aux_lemma=>kernel_rfl
theorem MobRow_inst:Tryz.f7.isInstance Tryz.pinned.checked.prog Rows.mobRowRow.origin Rows.mobRowRow.targs:=of_decide_eq_true (by kernel_rfl)
theorem MobRow_wrap:Tryz.f7.isWrapper Tryz.pinned.checked.prog Rows.mobRowRow.wrapper Rows.mobRowRow.mainSum:=by unfold Func.isWrapper; first | (rw [if_pos (by decide +kernel)]; kernel_rfl) | (rw [if_neg (by decide +kernel)]; exact ⟨rfl,rfl⟩)
theorem MobRow_over:Rows.mobRowRow.holds Tryz.pinned (OpenSpec.ofChange Rows.mobRowSpec) :=
 OpenClaim.holds_of_wide 7 Tryz.f7 rfl rfl rfl rfl rfl rfl rfl ⟨rfl,rfl,rfl,rfl,rfl⟩ rfl rfl rfl rfl rfl MobRow_named Tryz.func7 MobRow_facts MobRow_inst MobRow_wrap
  (fun os started H enc _=>MobRow_lifted os started H enc)
theorem MobRow_holds:Rows.MobRowSaid:=MobRow_over
#print axioms MobRow_holds
end Go.Proofs.YtbepimnlleilfaaGreat
