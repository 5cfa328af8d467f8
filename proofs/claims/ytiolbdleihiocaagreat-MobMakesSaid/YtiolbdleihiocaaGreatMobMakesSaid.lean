/- The statement MobMakes (layer 8) holds of every input: of any four numbers, that may be or not, the map, slid, stretched, is the answer of the document, or the refusal. No condition. -/
import Derived.Test.YtiolbdleihiocaaGreatRows
import Derived.Test.YtiolbdleihiocaaGreatPk13
set_option linter.unnecessarySimpa false
set_option linter.unusedVariables false
set_option linter.unusedSimpArgs false
namespace Go.Proofs.YtiolbdleihiocaaGreat
open Go.ChangeShapes Go.WideShapes Go.ChangeAt Go.RowKit
theorem own_knob : ownKnob Tryz.prog.godebug = none := by kernel_rfl
theorem laid_out : laidOutB Tryz.prog = true := by kernel_rfl
set_option maxRecDepth 100000 in
theorem MobMakes_lifted (os : Os) (started : os.Started) (H : Type) (enc : TypeId × Value → H) :
    ReturnsInHanded {} Tryz.checked os 6 .any (Rows.mobMakesSpec.pre6 enc Tryz.prog Tryz.f6 Rows.mobMakesRow.domain false) (Rows.mobMakesSpec.post enc Tryz.prog Tryz.f6 false true false false) := by
  refine returnsInHanded_of_change (C := Tryz.checked) own_knob started (by kernel_rfl) Tryz.func6
    (ChangeSpec.witness6 (enc := enc) (C := Tryz.checked) false ⟨#[], #[.agg #[.bool false, .string ⟨#[]⟩, .bool false, .string ⟨#[]⟩, .bool false, .string ⟨#[]⟩, .bool false, .string ⟨#[]⟩, .bool false, .string ⟨#[]⟩, .bool false, .string ⟨#[]⟩, .bool false, .string ⟨#[]⟩, .bool false, .string ⟨#[]⟩, .bool false, .string ⟨#[]⟩, .bool false, .string ⟨#[]⟩, .bool false, .string ⟨#[]⟩, .bool false, .string ⟨#[]⟩, .bool false, .string ⟨#[]⟩, .bool false, .string ⟨#[]⟩, .bool false, .string ⟨#[]⟩, .bool false, .string ⟨#[]⟩, .bool false]], []⟩ 12 (by kernel_rfl) (by kernel_rfl) (by kernel_rfl) (by kernel_rfl)) ?_
  intro W base args ds gs before hval0 hW hcnd _
  have hval : ∀ (j : Nat) t v, Tryz.f6.params[j]? = some t → args[j]? = some v → Value.okWide Tryz.prog W .any base t v := hval0
  have hW' := hW
  obtain ⟨p, q, hA0, hV, rfl, hfz, hnd⟩ := hW
  have hA : DataW.TrodAll enc Tryz.prog W 0 (fun _ => true) true Tryz.f6.params.toList args.toList ds p := hA0
  rw [Tryz.params6] at hA hval
  obtain ⟨v0, vs0, d0, ds0, p0, q0, hargs, rfl, rfl, h0, r0⟩ := trodAll_cons hA
  obtain ⟨rfl, rfl, rfl⟩ := trodAll_nil r0
  obtain rfl : args = #[v0] := by cases args; simp_all
  obtain ⟨rfl, rfl⟩ := trodVars_none hV
  have k0 := h0
  have lt0 : ∀ x ∈ p0, x.block < W.heap.size := by obtain ⟨m, hm⟩ := k0; exact DataW.trod_lt m _ _ _ hm
  obtain ⟨x1_0, y1_0, x1_1, y1_1, x1_2, y1_2, x1_3, y1_3, t1, rfl, o1_x1_0, o1_y1_0, o1_x1_1, o1_y1_1, o1_x1_2, o1_y1_2, o1_x1_3, o1_y1_3⟩ := open_four (hval 0 _ v0 rfl rfl) h0
  clear hA0 hval0
  refine (MobMakes_walk x1_0 y1_0 x1_1 y1_1 x1_2 y1_2 x1_3 y1_3 t1 o1_x1_0 o1_y1_0 o1_x1_1 o1_y1_1 o1_x1_2 o1_y1_2 o1_x1_3 o1_y1_3 W).mono fun e W' ⟨he, bel⟩ => ?_
  subst he
  exact ⟨_, rfl, _, _, _, [], _, [], hW', trodAll_mk1 (shut_bool Tryz.underlying4 _), (trodAll_cons_mk (Below.trod laid_out (by kernel_rfl) (of_decide_eq_true (by kernel_rfl)) k0 bel lt0) trodAll_mk0), rfl, bel.frame _, fun h => by cases h⟩
theorem and2 {a b : Bool} (h : a = true) (k : b = true) : (a && b) = true := by rw [h, k]; rfl
theorem MobMakes_named : Tryz.pinned.checked.prog.funcNamed Rows.mobMakesRow.func = some 6 := by kernel_rfl
set_option maxHeartbeats 8000000 in
theorem MobMakes_facts : joinedFacts Tryz.pinned.checked.prog 6 Tryz.f6 Rows.mobMakesSpec Rows.mobMakesRow = true := by
  unfold joinedFacts
  repeat' (with_reducible apply and2)
  all_goals as_aux_lemma => kernel_rfl
theorem MobMakes_inst : Tryz.f6.isInstance Tryz.pinned.checked.prog Rows.mobMakesRow.origin Rows.mobMakesRow.targs := of_decide_eq_true (by kernel_rfl)
theorem MobMakes_wrap : Tryz.f6.isWrapper Tryz.pinned.checked.prog Rows.mobMakesRow.wrapper Rows.mobMakesRow.mainSum := by unfold Func.isWrapper; first | (rw [if_pos (by decide +kernel)]; kernel_rfl) | (rw [if_neg (by decide +kernel)]; exact ⟨rfl, rfl⟩)
theorem MobMakes_over : Rows.mobMakesRow.holds Tryz.pinned (OpenSpec.ofChange Rows.mobMakesSpec) :=
  OpenClaim.holds_of_wide 6 Tryz.f6 rfl rfl rfl rfl rfl rfl rfl ⟨rfl, rfl, rfl, rfl, rfl⟩ rfl rfl rfl rfl rfl MobMakes_named Tryz.func6 MobMakes_facts MobMakes_inst MobMakes_wrap
    (fun os started H enc _ => MobMakes_lifted os started H enc)
theorem MobMakes_holds : Rows.MobMakesSaid := MobMakes_over
#print axioms MobMakes_holds
end Go.Proofs.YtiolbdleihiocaaGreat
