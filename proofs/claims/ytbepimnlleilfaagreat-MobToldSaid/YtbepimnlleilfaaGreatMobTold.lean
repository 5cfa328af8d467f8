/- The statement MobTold (layer 8) holds of every input: any two maps, any three points: the points and their images tell the map; the determinant of two that do not turn, one behind the other, is but for a square the product of theirs; an order is how often. No condition. -/
import Derived.Test.YtbepimnlleilfaaGreatRows
import Derived.Test.YtbepimnlleilfaaGreatNk16
set_option linter.unnecessarySimpa false
set_option linter.unusedVariables false
set_option linter.unusedSimpArgs false
namespace Go.Proofs.YtbepimnlleilfaaGreat
open Go.ChangeShapes Go.WideShapes Go.ChangeAt Go.RowKit
theorem own_knob:ownKnob Tryz.prog.godebug=none:=by kernel_rfl
theorem laid_out:laidOutB Tryz.prog=true:=by kernel_rfl
set_option maxRecDepth 100000 in
theorem MobTold_lifted (os:Os) (started:os.Started) (H:Type) (enc:TypeId × Value→H) :
  ReturnsInHanded {} Tryz.checked os 8 .any (Rows.mobToldSpec.pre6 enc Tryz.prog Tryz.f8 Rows.mobToldRow.domain false) (Rows.mobToldSpec.post enc Tryz.prog Tryz.f8 false true false false):=by
 refine returnsInHanded_of_change (C:=Tryz.checked) own_knob started (by kernel_rfl) Tryz.func8
  (ChangeSpec.witness6 (enc:=enc) (C:=Tryz.checked) false ⟨#[],#[.agg #[.bool false,.string ⟨#[]⟩,.bool false,.string ⟨#[]⟩,.bool false,.string ⟨#[]⟩,.bool false,.string ⟨#[]⟩,.bool false,.string ⟨#[]⟩,.bool false,.string ⟨#[]⟩,.bool false,.string ⟨#[]⟩,.bool false,.string ⟨#[]⟩,.bool false,.string ⟨#[]⟩,.bool false,.string ⟨#[]⟩,.bool false,.string ⟨#[]⟩,.bool false,.string ⟨#[]⟩,.bool false,.string ⟨#[]⟩,.bool false,.string ⟨#[]⟩,.bool false,.string ⟨#[]⟩,.bool false,.string ⟨#[]⟩,.bool false],.agg #[.bool false,.string ⟨#[]⟩,.bool false,.string ⟨#[]⟩,.bool false,.string ⟨#[]⟩,.bool false,.string ⟨#[]⟩,.bool false,.string ⟨#[]⟩,.bool false,.string ⟨#[]⟩,.bool false,.string ⟨#[]⟩,.bool false,.string ⟨#[]⟩,.bool false,.string ⟨#[]⟩,.bool false,.string ⟨#[]⟩,.bool false,.string ⟨#[]⟩,.bool false,.string ⟨#[]⟩,.bool false,.string ⟨#[]⟩,.bool false,.string ⟨#[]⟩,.bool false,.string ⟨#[]⟩,.bool false,.string ⟨#[]⟩,.bool false],.agg #[.bool false,.bool false,.string ⟨#[]⟩,.bool false,.string ⟨#[]⟩,.bool false,.string ⟨#[]⟩,.bool false,.string ⟨#[]⟩,.bool false,.bool false,.string ⟨#[]⟩,.bool false,.string ⟨#[]⟩,.bool false,.string ⟨#[]⟩,.bool false,.string ⟨#[]⟩,.bool false,.bool false,.string ⟨#[]⟩,.bool false,.string ⟨#[]⟩,.bool false,.string ⟨#[]⟩,.bool false,.string ⟨#[]⟩]],[]⟩ 12 (by kernel_rfl) (by kernel_rfl) (by kernel_rfl) (by kernel_rfl)) ?_
 intro W base args ds gs before hval0 hW hcnd _
 have hval:∀ (j:Nat) t v,Tryz.f8.params[j]?=some t→args[j]?=some v→Value.okWide Tryz.prog W .any base t v:=hval0
 have hW':=hW
 obtain ⟨p,q,hA0,hV,rfl,hfz,hnd⟩:=hW
 have hA:DataW.TrodAll enc Tryz.prog W 0 (fun _=>true) true Tryz.f8.params.toList args.toList ds p:=hA0
 rw [Tryz.params8] at hA hval
 obtain ⟨v0,vs0,d0,ds0,p0,q0,hargs,rfl,rfl,h0,r0⟩:=trodAll_cons hA
 obtain ⟨v1,vs1,d1,ds1,p1,q1,rfl,rfl,rfl,h1,r1⟩:=trodAll_cons r0
 obtain ⟨v2,vs2,d2,ds2,p2,q2,rfl,rfl,rfl,h2,r2⟩:=trodAll_cons r1
 obtain ⟨rfl,rfl,rfl⟩:=trodAll_nil r2
 obtain rfl:args=#[v0,v1,v2]:=by cases args; simp_all
 obtain ⟨rfl,rfl⟩:=trodVars_none hV
 have k0:=h0
 have lt0:∀ x∈p0,x.block<W.heap.size:=by obtain ⟨m,hm⟩:=k0; exact DataW.trod_lt m _ _ _ hm
 have k1:=h1
 have lt1:∀ x∈p1,x.block<W.heap.size:=by obtain ⟨m,hm⟩:=k1; exact DataW.trod_lt m _ _ _ hm
 have k2:=h2
 have lt2:∀ x∈p2,x.block<W.heap.size:=by obtain ⟨m,hm⟩:=k2; exact DataW.trod_lt m _ _ _ hm
 obtain ⟨x1_0,y1_0,x1_1,y1_1,x1_2,y1_2,x1_3,y1_3,t1,rfl,o1_x1_0,o1_y1_0,o1_x1_1,o1_y1_1,o1_x1_2,o1_y1_2,o1_x1_3,o1_y1_3⟩:=open_mob (hval 0 _ v0 rfl rfl) h0
 obtain ⟨x2_0,y2_0,x2_1,y2_1,x2_2,y2_2,x2_3,y2_3,t2,rfl,o2_x2_0,o2_y2_0,o2_x2_1,o2_y2_1,o2_x2_2,o2_y2_2,o2_x2_3,o2_y2_3⟩:=open_mob (hval 1 _ v1 rfl rfl) h1
 obtain ⟨i3_0,i3_1,i3_2,x3_0,y3_0,x3_1,y3_1,x3_2,y3_2,rfl,o3_0,o3_1,o3_2⟩:=open_p3 (hval 2 _ v2 rfl rfl) h2
 clear hA0 hval0
 refine (MobTold_walk x1_0 y1_0 x1_1 y1_1 x1_2 y1_2 x1_3 y1_3 t1 x2_0 y2_0 x2_1 y2_1 x2_2 y2_2 x2_3 y2_3 t2 ⟨i3_0,x3_0,y3_0⟩ ⟨i3_1,x3_1,y3_1⟩ ⟨i3_2,x3_2,y3_2⟩ o1_x1_0 o1_y1_0 o1_x1_1 o1_y1_1 o1_x1_2 o1_y1_2 o1_x1_3 o1_y1_3 o2_x2_0 o2_y2_0 o2_x2_1 o2_y2_1 o2_x2_2 o2_y2_2 o2_x2_3 o2_y2_3 o3_0 o3_1 o3_2 W).mono fun e W' ⟨he,bel⟩=>?_
 subst he
 exact ⟨_,rfl,_,_,_,[],_,[],hW',trodAll_mk1 (shut_bool Tryz.underlying4 _),(trodAll_cons_mk (Below.trod laid_out (by kernel_rfl) (of_decide_eq_true (by kernel_rfl)) k0 bel lt0) (trodAll_cons_mk (Below.trod laid_out (by kernel_rfl) (of_decide_eq_true (by kernel_rfl)) k1 bel lt1) (trodAll_cons_mk (Below.trod laid_out (by kernel_rfl) (of_decide_eq_true (by kernel_rfl)) k2 bel lt2) trodAll_mk0))),rfl,bel.frame _,fun h=>by cases h⟩
theorem and2 {a b:Bool} (h:a=true) (k:b=true):(a&&b)=true:=by rw [h,k]; rfl
theorem MobTold_named:Tryz.pinned.checked.prog.funcNamed Rows.mobToldRow.func=some 8:=by kernel_rfl
set_option maxHeartbeats 8000000 in
theorem MobTold_facts:joinedFacts Tryz.pinned.checked.prog 8 Tryz.f8 Rows.mobToldSpec Rows.mobToldRow=true:=by
 unfold joinedFacts
 repeat' (with_reducible apply and2)
 all_goals as_aux_lemma=>kernel_rfl
theorem MobTold_inst:Tryz.f8.isInstance Tryz.pinned.checked.prog Rows.mobToldRow.origin Rows.mobToldRow.targs:=of_decide_eq_true (by kernel_rfl)
theorem MobTold_wrap:Tryz.f8.isWrapper Tryz.pinned.checked.prog Rows.mobToldRow.wrapper Rows.mobToldRow.mainSum:=by unfold Func.isWrapper; first | (rw [if_pos (by decide +kernel)]; kernel_rfl) | (rw [if_neg (by decide +kernel)]; exact ⟨rfl,rfl⟩)
theorem MobTold_over:Rows.mobToldRow.holds Tryz.pinned (OpenSpec.ofChange Rows.mobToldSpec) :=
 OpenClaim.holds_of_wide 8 Tryz.f8 rfl rfl rfl rfl rfl rfl rfl ⟨rfl,rfl,rfl,rfl,rfl⟩ rfl rfl rfl rfl rfl MobTold_named Tryz.func8 MobTold_facts MobTold_inst MobTold_wrap
  (fun os started H enc _=>MobTold_lifted os started H enc)
theorem MobTold_holds:Rows.MobToldSaid:=MobTold_over
#print axioms MobTold_holds
end Go.Proofs.YtbepimnlleilfaaGreat
