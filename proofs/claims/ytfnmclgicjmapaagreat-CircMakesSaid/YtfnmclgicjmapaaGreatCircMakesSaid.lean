/- The statement CircMakes (layer 11) holds of every input: of any three numbers the circle, about any centre, the line through any point, or the refusal. No condition. -/
import Derived.Test.YtfnmclgicjmapaaGreatRows
import Derived.Test.YtfnmclgicjmapaaGreatPk14
set_option linter.unnecessarySimpa false
set_option linter.unusedVariables false
set_option linter.unusedSimpArgs false
namespace Go.Proofs.YtfnmclgicjmapaaGreat
open Go.ChangeShapes Go.WideShapes Go.ChangeAt Go.RowKit
theorem own_knob : ownKnob Tryz.prog.godebug = none := by kernel_rfl
theorem laid_out : laidOutB Tryz.prog = true := by kernel_rfl
set_option maxRecDepth 100000 in
theorem CircMakes_lifted (os : Os) (started : os.Started) (H : Type) (enc : TypeId × Value → H) :
    ReturnsInHanded {} Tryz.checked os 13 .any (Rows.circMakesSpec.pre6 enc Tryz.prog Tryz.f13 Rows.circMakesRow.domain false) (Rows.circMakesSpec.post enc Tryz.prog Tryz.f13 false true false false) := by
  refine returnsInHanded_of_change (C := Tryz.checked) own_knob started (by kernel_rfl) Tryz.func13
    (ChangeSpec.witness6 (enc := enc) (C := Tryz.checked) false ⟨#[], #[.agg #[.bool false, .string ⟨#[]⟩, .bool false, .string ⟨#[]⟩, .bool false, .string ⟨#[]⟩, .bool false, .string ⟨#[]⟩, .bool false, .string ⟨#[]⟩, .bool false, .string ⟨#[]⟩, .bool false, .string ⟨#[]⟩, .bool false, .string ⟨#[]⟩, .bool false, .string ⟨#[]⟩, .bool false, .string ⟨#[]⟩, .bool false, .string ⟨#[]⟩, .bool false, .string ⟨#[]⟩, .bool false, .string ⟨#[]⟩, .bool false, .string ⟨#[]⟩, .bool false, .string ⟨#[]⟩, .bool false, .string ⟨#[]⟩]], []⟩ 12 (by kernel_rfl) (by kernel_rfl) (by kernel_rfl) (by kernel_rfl)) ?_
  intro W base args ds gs before hval0 hW hcnd _
  have hval : ∀ (j : Nat) t v, Tryz.f13.params[j]? = some t → args[j]? = some v → Value.okWide Tryz.prog W .any base t v := hval0
  have hW' := hW
  obtain ⟨p, q, hA0, hV, rfl, hfz, hnd⟩ := hW
  have hA : DataW.TrodAll enc Tryz.prog W 0 (fun _ => true) true Tryz.f13.params.toList args.toList ds p := hA0
  rw [Tryz.params13] at hA hval
  obtain ⟨v0, vs0, d0, ds0, p0, q0, hargs, rfl, rfl, h0, r0⟩ := trodAll_cons hA
  obtain ⟨rfl, rfl, rfl⟩ := trodAll_nil r0
  obtain rfl : args = #[v0] := by cases args; simp_all
  obtain ⟨rfl, rfl⟩ := trodVars_none hV
  have k0 := h0
  have lt0 : ∀ x ∈ p0, x.block < W.heap.size := by obtain ⟨m, hm⟩ := k0; exact DataW.trod_lt m _ _ _ hm
  obtain ⟨a1, b1, bb1, c1, z1, zz1, u1, uu1, rfl, oa1, ob1, obb1, oc1, oz1, ozz1, ou1, ouu1⟩ := open_nums (hval 0 _ v0 rfl rfl) h0
  clear hA0 hval0
  refine (CircMakes_walk a1 b1 bb1 c1 z1 zz1 u1 uu1 oa1 ob1 obb1 oc1 oz1 ozz1 ou1 ouu1 W).mono fun e W' ⟨he, bel⟩ => ?_
  subst he
  exact ⟨_, rfl, _, _, _, [], _, [], hW', trodAll_mk1 (shut_bool Tryz.underlying4 _), (trodAll_cons_mk (Below.trod laid_out (by kernel_rfl) (of_decide_eq_true (by kernel_rfl)) k0 bel lt0) trodAll_mk0), rfl, bel.frame _, fun h => by cases h⟩
theorem and2 {a b : Bool} (h : a = true) (k : b = true) : (a && b) = true := by rw [h, k]; rfl
theorem CircMakes_named : Tryz.pinned.checked.prog.funcNamed Rows.circMakesRow.func = some 13 := by kernel_rfl
set_option maxHeartbeats 8000000 in
theorem CircMakes_facts : joinedFacts Tryz.pinned.checked.prog 13 Tryz.f13 Rows.circMakesSpec Rows.circMakesRow = true := by
  unfold joinedFacts
  repeat' (with_reducible apply and2)
  all_goals as_aux_lemma => kernel_rfl
theorem CircMakes_inst : Tryz.f13.isInstance Tryz.pinned.checked.prog Rows.circMakesRow.origin Rows.circMakesRow.targs := of_decide_eq_true (by kernel_rfl)
theorem CircMakes_wrap : Tryz.f13.isWrapper Tryz.pinned.checked.prog Rows.circMakesRow.wrapper Rows.circMakesRow.mainSum := by unfold Func.isWrapper; first | (rw [if_pos (by decide +kernel)]; kernel_rfl) | (rw [if_neg (by decide +kernel)]; exact ⟨rfl, rfl⟩)
theorem CircMakes_over : Rows.circMakesRow.holds Tryz.pinned (OpenSpec.ofChange Rows.circMakesSpec) :=
  OpenClaim.holds_of_wide 13 Tryz.f13 rfl rfl rfl rfl rfl rfl rfl ⟨rfl, rfl, rfl, rfl, rfl⟩ rfl rfl rfl rfl rfl CircMakes_named Tryz.func13 CircMakes_facts CircMakes_inst CircMakes_wrap
    (fun os started H enc _ => CircMakes_lifted os started H enc)
theorem CircMakes_holds : Rows.CircMakesSaid := CircMakes_over
#print axioms CircMakes_holds
end Go.Proofs.YtfnmclgicjmapaaGreat
