/- The statement FracOne (layer 3) holds of every input: any one fraction: its sign, turned, its magnitude, rounded, its root, or the refusal; one small number over another. No condition. -/
import Derived.Test.YtpccljaooghafaaGreatRows
import Derived.Test.YtpccljaooghafaaGreatPk14
set_option linter.unnecessarySimpa false
set_option linter.unusedVariables false
set_option linter.unusedSimpArgs false
namespace Go.Proofs.YtpccljaooghafaaGreat
open Go.ChangeShapes Go.WideShapes Go.ChangeAt Go.RowKit
theorem own_knob : ownKnob Tryz.prog.godebug = none:=by kernel_rfl
theorem laid_out : laidOutB Tryz.prog = true:=by kernel_rfl
set_option maxRecDepth 100000 in
theorem FracOne_lifted (os : Os) (started : os.Started) (H : Type) (enc : TypeId × Value → H) :
    ReturnsInHanded {} Tryz.checked os 4 .any (Rows.fracOneSpec.pre6 enc Tryz.prog Tryz.f4 Rows.fracOneRow.domain false) (Rows.fracOneSpec.post enc Tryz.prog Tryz.f4 false true false false):=by
  refine returnsInHanded_of_change (C:=Tryz.checked) own_knob started (by kernel_rfl) Tryz.func4
    (ChangeSpec.witness6 (enc:=enc) (C:=Tryz.checked) false ⟨#[],#[.agg #[.bool false,.string ⟨#[]⟩,.bool false,.string ⟨#[]⟩],.int .i64 0,.int .i64 0],[]⟩ 12 (by kernel_rfl) (by kernel_rfl) (by kernel_rfl) (by kernel_rfl)) ?_
  intro W base args ds gs before hval0 hW hcnd _
  have hval : ∀ (j : Nat) t v,Tryz.f4.params[j]? = some t → args[j]? = some v → Value.okWide Tryz.prog W .any base t v:=hval0
  have hW':=hW
  obtain ⟨p,q,hA0,hV,rfl,hfz,hnd⟩:=hW
  have hA : DataW.TrodAll enc Tryz.prog W 0 (fun _=>true) true Tryz.f4.params.toList args.toList ds p:=hA0
  rw [Tryz.params4] at hA hval
  obtain ⟨v0,vs0,d0,ds0,p0,q0,hargs,rfl,rfl,h0,r0⟩:=trodAll_cons hA
  obtain ⟨v1,vs1,d1,ds1,p1,q1,rfl,rfl,rfl,h1,r1⟩:=trodAll_cons r0
  obtain ⟨v2,vs2,d2,ds2,p2,q2,rfl,rfl,rfl,h2,r2⟩:=trodAll_cons r1
  obtain ⟨rfl,rfl,rfl⟩:=trodAll_nil r2
  obtain rfl : args = #[v0,v1,v2]:=by cases args; simp_all
  obtain ⟨rfl,rfl⟩:=trodVars_none hV
  have k0:=h0
  have lt0 : ∀ x ∈ p0,x.block < W.heap.size:=by obtain ⟨m,hm⟩:=k0; exact DataW.trod_lt m _ _ _ hm
  have k1:=h1
  have k2:=h2
  obtain ⟨b1,c1,s1,t1,rfl,hs1,ht1⟩:=open_frac (hval 0 _ v0 rfl rfl) h0
  obtain ⟨a2,rfl,rfl,rfl,w2⟩:=open_int Tryz.underlying2 (hval 1 _ v1 rfl rfl) h1
  obtain ⟨a3,rfl,rfl,rfl,w3⟩:=open_int Tryz.underlying2 (hval 2 _ v2 rfl rfl) h2
  clear hA0 hval0
  refine (FracOne_walk b1 c1 s1 t1 a2 a3 hs1 ht1 w2 w3 W).mono fun e W' ⟨he,bel⟩=>?_
  subst he
  exact ⟨_,rfl,_,_,_,[],_,[],hW',trodAll_mk1 (shut_bool Tryz.underlying4 _),(trodAll_cons_mk (Below.trod laid_out (by kernel_rfl) (of_decide_eq_true (by kernel_rfl)) k0 bel lt0) (trodAll_cons_mk (shut_int Tryz.underlying2 w2) (trodAll_cons_mk (shut_int Tryz.underlying2 w3) trodAll_mk0))),rfl,bel.frame _,fun h=>by cases h⟩
theorem and2 {a b : Bool} (h : a = true) (k : b = true) : (a && b) = true:=by rw [h,k]; rfl
theorem FracOne_named : Tryz.pinned.checked.prog.funcNamed Rows.fracOneRow.func = some 4:=by kernel_rfl
set_option maxHeartbeats 8000000 in
theorem FracOne_facts : joinedFacts Tryz.pinned.checked.prog 4 Tryz.f4 Rows.fracOneSpec Rows.fracOneRow = true:=by
  unfold joinedFacts
  repeat' (with_reducible apply and2)
  all_goals as_aux_lemma=>kernel_rfl
theorem FracOne_inst : Tryz.f4.isInstance Tryz.pinned.checked.prog Rows.fracOneRow.origin Rows.fracOneRow.targs:=of_decide_eq_true (by kernel_rfl)
theorem FracOne_wrap : Tryz.f4.isWrapper Tryz.pinned.checked.prog Rows.fracOneRow.wrapper Rows.fracOneRow.mainSum:=by unfold Func.isWrapper; first | (rw [if_pos (by decide +kernel)]; kernel_rfl) | (rw [if_neg (by decide +kernel)]; exact ⟨rfl,rfl⟩)
theorem FracOne_over : Rows.fracOneRow.holds Tryz.pinned (OpenSpec.ofChange Rows.fracOneSpec) :=
  OpenClaim.holds_of_wide 4 Tryz.f4 rfl rfl rfl rfl rfl rfl rfl ⟨rfl,rfl,rfl,rfl,rfl⟩ rfl rfl rfl rfl rfl FracOne_named Tryz.func4 FracOne_facts FracOne_inst FracOne_wrap
    (fun os started H enc _=>FracOne_lifted os started H enc)
theorem FracOne_holds : Rows.FracOneSaid:=FracOne_over
#print axioms FracOne_holds
end Go.Proofs.YtpccljaooghafaaGreat
