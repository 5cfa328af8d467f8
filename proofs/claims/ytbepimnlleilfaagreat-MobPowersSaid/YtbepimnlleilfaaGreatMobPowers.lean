/- The statement MobPowers (layer 8) holds of every input: any map, any whole number: its power, or that it is too long, or may not be; its order, which is the first power that moves nothing (none is above 12). No condition. -/
import Derived.Test.YtbepimnlleilfaaGreatRows
import Derived.Test.YtbepimnlleilfaaGreatOk13
set_option linter.unnecessarySimpa false
set_option linter.unusedVariables false
set_option linter.unusedSimpArgs false
namespace Go.Proofs.YtbepimnlleilfaaGreat
open Go.ChangeShapes Go.WideShapes Go.ChangeAt Go.RowKit
theorem own_knob:ownKnob Tryz.prog.godebug=none:=by kernel_rfl
theorem laid_out:laidOutB Tryz.prog=true:=by kernel_rfl
set_option maxRecDepth 100000 in
theorem MobPowers_lifted (os:Os) (started:os.Started) (H:Type) (enc:TypeId × Value→H) :
  ReturnsInHanded {} Tryz.checked os 5 .any (Rows.mobPowersSpec.pre6 enc Tryz.prog Tryz.f5 Rows.mobPowersRow.domain false) (Rows.mobPowersSpec.post enc Tryz.prog Tryz.f5 false true false false):=by
 refine returnsInHanded_of_change (C:=Tryz.checked) own_knob started (by kernel_rfl) Tryz.func5
  (ChangeSpec.witness6 (enc:=enc) (C:=Tryz.checked) false ⟨#[],#[.agg #[.bool false,.string ⟨#[]⟩,.bool false,.string ⟨#[]⟩,.bool false,.string ⟨#[]⟩,.bool false,.string ⟨#[]⟩,.bool false,.string ⟨#[]⟩,.bool false,.string ⟨#[]⟩,.bool false,.string ⟨#[]⟩,.bool false,.string ⟨#[]⟩,.bool false,.string ⟨#[]⟩,.bool false,.string ⟨#[]⟩,.bool false,.string ⟨#[]⟩,.bool false,.string ⟨#[]⟩,.bool false,.string ⟨#[]⟩,.bool false,.string ⟨#[]⟩,.bool false,.string ⟨#[]⟩,.bool false,.string ⟨#[]⟩,.bool false],.int .i64 0],[]⟩ 12 (by kernel_rfl) (by kernel_rfl) (by kernel_rfl) (by kernel_rfl)) ?_
 intro W base args ds gs before hval0 hW hcnd _
 have hval:∀ (j:Nat) t v,Tryz.f5.params[j]?=some t→args[j]?=some v→Value.okWide Tryz.prog W .any base t v:=hval0
 have hW':=hW
 obtain ⟨p,q,hA0,hV,rfl,hfz,hnd⟩:=hW
 have hA:DataW.TrodAll enc Tryz.prog W 0 (fun _=>true) true Tryz.f5.params.toList args.toList ds p:=hA0
 rw [Tryz.params5] at hA hval
 obtain ⟨v0,vs0,d0,ds0,p0,q0,hargs,rfl,rfl,h0,r0⟩:=trodAll_cons hA
 obtain ⟨v1,vs1,d1,ds1,p1,q1,rfl,rfl,rfl,h1,r1⟩:=trodAll_cons r0
 obtain ⟨rfl,rfl,rfl⟩:=trodAll_nil r1
 obtain rfl:args=#[v0,v1]:=by cases args; simp_all
 obtain ⟨rfl,rfl⟩:=trodVars_none hV
 have k0:=h0
 have lt0:∀ x∈p0,x.block<W.heap.size:=by obtain ⟨m,hm⟩:=k0; exact DataW.trod_lt m _ _ _ hm
 have k1:=h1
 obtain ⟨x1_0,y1_0,x1_1,y1_1,x1_2,y1_2,x1_3,y1_3,t1,rfl,o1_x1_0,o1_y1_0,o1_x1_1,o1_y1_1,o1_x1_2,o1_y1_2,o1_x1_3,o1_y1_3⟩:=open_mob (hval 0 _ v0 rfl rfl) h0
 obtain ⟨a2,rfl,rfl,rfl,w2⟩:=open_int Tryz.underlying3 (hval 1 _ v1 rfl rfl) h1
 clear hA0 hval0
 refine (MobPowers_walk x1_0 y1_0 x1_1 y1_1 x1_2 y1_2 x1_3 y1_3 t1 a2 o1_x1_0 o1_y1_0 o1_x1_1 o1_y1_1 o1_x1_2 o1_y1_2 o1_x1_3 o1_y1_3 w2 W).mono fun e W' ⟨he,bel⟩=>?_
 subst he
 exact ⟨_,rfl,_,_,_,[],_,[],hW',trodAll_mk1 (shut_bool Tryz.underlying4 _),(trodAll_cons_mk (Below.trod laid_out (by kernel_rfl) (of_decide_eq_true (by kernel_rfl)) k0 bel lt0) (trodAll_cons_mk (shut_int Tryz.underlying3 w2) trodAll_mk0)),rfl,bel.frame _,fun h=>by cases h⟩
theorem and2 {a b:Bool} (h:a=true) (k:b=true):(a&&b)=true:=by rw [h,k]; rfl
theorem MobPowers_named:Tryz.pinned.checked.prog.funcNamed Rows.mobPowersRow.func=some 5:=by kernel_rfl
set_option maxHeartbeats 8000000 in
theorem MobPowers_facts:joinedFacts Tryz.pinned.checked.prog 5 Tryz.f5 Rows.mobPowersSpec Rows.mobPowersRow=true:=by
 unfold joinedFacts
 repeat' (with_reducible apply and2)
 all_goals as_aux_lemma=>kernel_rfl
theorem MobPowers_inst:Tryz.f5.isInstance Tryz.pinned.checked.prog Rows.mobPowersRow.origin Rows.mobPowersRow.targs:=of_decide_eq_true (by kernel_rfl)
theorem MobPowers_wrap:Tryz.f5.isWrapper Tryz.pinned.checked.prog Rows.mobPowersRow.wrapper Rows.mobPowersRow.mainSum:=by unfold Func.isWrapper; first | (rw [if_pos (by decide +kernel)]; kernel_rfl) | (rw [if_neg (by decide +kernel)]; exact ⟨rfl,rfl⟩)
theorem MobPowers_over:Rows.mobPowersRow.holds Tryz.pinned (OpenSpec.ofChange Rows.mobPowersSpec) :=
 OpenClaim.holds_of_wide 5 Tryz.f5 rfl rfl rfl rfl rfl rfl rfl ⟨rfl,rfl,rfl,rfl,rfl⟩ rfl rfl rfl rfl rfl MobPowers_named Tryz.func5 MobPowers_facts MobPowers_inst MobPowers_wrap
  (fun os started H enc _=>MobPowers_lifted os started H enc)
theorem MobPowers_holds:Rows.MobPowersSaid:=MobPowers_over
#print axioms MobPowers_holds
end Go.Proofs.YtbepimnlleilfaaGreat
