/- The statement MobThree (layer 8) holds of every input: of any three points and any three images, turned or not, the map is the answer of the document, or the refusal. No condition. -/
import Derived.Test.YtiolbdleihiocaaGreatRows
import Derived.Test.YtiolbdleihiocaaGreatPk15
set_option linter.unnecessarySimpa false
set_option linter.unusedVariables false
set_option linter.unusedSimpArgs false
namespace Go.Proofs.YtiolbdleihiocaaGreat
open Go.ChangeShapes Go.WideShapes Go.ChangeAt Go.RowKit

theorem own_knob : ownKnob Tryz.prog.godebug = none := by kernel_rfl
theorem laid_out : laidOutB Tryz.prog = true := by kernel_rfl
set_option maxRecDepth 100000 in
theorem MobThree_lifted (os : Os) (started : os.Started) (H : Type) (enc : TypeId × Value → H) :
    ReturnsInHanded {} Tryz.checked os 3 .any (Rows.mobThreeSpec.pre6 enc Tryz.prog Tryz.f3 Rows.mobThreeRow.domain false) (Rows.mobThreeSpec.post enc Tryz.prog Tryz.f3 false true false false) := by
  refine returnsInHanded_of_change (C := Tryz.checked) own_knob started (by kernel_rfl) Tryz.func3
    (ChangeSpec.witness6 (enc := enc) (C := Tryz.checked) false ⟨#[], #[.agg #[.bool false, .bool false, .string ⟨#[]⟩, .bool false, .string ⟨#[]⟩, .bool false, .string ⟨#[]⟩, .bool false, .string ⟨#[]⟩, .bool false, .bool false, .string ⟨#[]⟩, .bool false, .string ⟨#[]⟩, .bool false, .string ⟨#[]⟩, .bool false, .string ⟨#[]⟩, .bool false, .bool false, .string ⟨#[]⟩, .bool false, .string ⟨#[]⟩, .bool false, .string ⟨#[]⟩, .bool false, .string ⟨#[]⟩], .agg #[.bool false, .bool false, .string ⟨#[]⟩, .bool false, .string ⟨#[]⟩, .bool false, .string ⟨#[]⟩, .bool false, .string ⟨#[]⟩, .bool false, .bool false, .string ⟨#[]⟩, .bool false, .string ⟨#[]⟩, .bool false, .string ⟨#[]⟩, .bool false, .string ⟨#[]⟩, .bool false, .bool false, .string ⟨#[]⟩, .bool false, .string ⟨#[]⟩, .bool false, .string ⟨#[]⟩, .bool false, .string ⟨#[]⟩], .bool false], []⟩ 12 (by kernel_rfl) (by kernel_rfl) (by kernel_rfl) (by kernel_rfl)) ?_
  intro W base args ds gs before hval0 hW hcnd _
  have hval : ∀ (j : Nat) t v, Tryz.f3.params[j]? = some t → args[j]? = some v → Value.okWide Tryz.prog W .any base t v := hval0
  have hW' := hW
  obtain ⟨p, q, hA0, hV, rfl, hfz, hnd⟩ := hW
  have hA : DataW.TrodAll enc Tryz.prog W 0 (fun _ => true) true Tryz.f3.params.toList args.toList ds p := hA0
  rw [Tryz.params3] at hA hval
  obtain ⟨v0, vs0, d0, ds0, p0, q0, hargs, rfl, rfl, h0, r0⟩ := trodAll_cons hA
  obtain ⟨v1, vs1, d1, ds1, p1, q1, rfl, rfl, rfl, h1, r1⟩ := trodAll_cons r0
  obtain ⟨v2, vs2, d2, ds2, p2, q2, rfl, rfl, rfl, h2, r2⟩ := trodAll_cons r1
  obtain ⟨rfl, rfl, rfl⟩ := trodAll_nil r2
  obtain rfl : args = #[v0, v1, v2] := by cases args; simp_all
  obtain ⟨rfl, rfl⟩ := trodVars_none hV
  have k0 := h0
  have lt0 : ∀ x ∈ p0, x.block < W.heap.size := by obtain ⟨m, hm⟩ := k0; exact DataW.trod_lt m _ _ _ hm
  have k1 := h1
  have lt1 : ∀ x ∈ p1, x.block < W.heap.size := by obtain ⟨m, hm⟩ := k1; exact DataW.trod_lt m _ _ _ hm
  have k2 := h2
  obtain ⟨i1_0, i1_1, i1_2, x1_0, y1_0, x1_1, y1_1, x1_2, y1_2, rfl, o1_0, o1_1, o1_2⟩ := open_p3 (hval 0 _ v0 rfl rfl) h0
  obtain ⟨i2_0, i2_1, i2_2, x2_0, y2_0, x2_1, y2_1, x2_2, y2_2, rfl, o2_0, o2_1, o2_2⟩ := open_p3 (hval 1 _ v1 rfl rfl) h1
  obtain ⟨b3, rfl, rfl, rfl⟩ := open_bool Tryz.underlying4 (hval 2 _ v2 rfl rfl) h2
  clear hA0 hval0
  refine (MobThree_walk ⟨i1_0, x1_0, y1_0⟩ ⟨i1_1, x1_1, y1_1⟩ ⟨i1_2, x1_2, y1_2⟩ ⟨i2_0, x2_0, y2_0⟩ ⟨i2_1, x2_1, y2_1⟩ ⟨i2_2, x2_2, y2_2⟩ b3 o1_0 o1_1 o1_2 o2_0 o2_1 o2_2 W).mono fun e W' ⟨he, bel⟩ => ?_
  subst he
  exact ⟨_, rfl, _, _, _, [], _, [], hW', trodAll_mk1 (shut_bool Tryz.underlying4 _), (trodAll_cons_mk (Below.trod laid_out (by kernel_rfl) (of_decide_eq_true (by kernel_rfl)) k0 bel lt0) (trodAll_cons_mk (Below.trod laid_out (by kernel_rfl) (of_decide_eq_true (by kernel_rfl)) k1 bel lt1) (trodAll_cons_mk (shut_bool Tryz.underlying4 _) trodAll_mk0))), rfl, bel.frame _, fun h => by cases h⟩

theorem and2 {a b : Bool} (h : a = true) (k : b = true) : (a && b) = true := by rw [h, k]; rfl
theorem MobThree_named : Tryz.pinned.checked.prog.funcNamed Rows.mobThreeRow.func = some 3 := by kernel_rfl
set_option maxHeartbeats 8000000 in
theorem MobThree_facts : joinedFacts Tryz.pinned.checked.prog 3 Tryz.f3 Rows.mobThreeSpec Rows.mobThreeRow = true := by
  unfold joinedFacts
  repeat' (with_reducible apply and2)
  all_goals as_aux_lemma => kernel_rfl
theorem MobThree_inst : Tryz.f3.isInstance Tryz.pinned.checked.prog Rows.mobThreeRow.origin Rows.mobThreeRow.targs := of_decide_eq_true (by kernel_rfl)
theorem MobThree_wrap : Tryz.f3.isWrapper Tryz.pinned.checked.prog Rows.mobThreeRow.wrapper Rows.mobThreeRow.mainSum := by unfold Func.isWrapper; first | (rw [if_pos (by decide +kernel)]; kernel_rfl) | (rw [if_neg (by decide +kernel)]; exact ⟨rfl, rfl⟩)
theorem MobThree_over : Rows.mobThreeRow.holds Tryz.pinned (OpenSpec.ofChange Rows.mobThreeSpec) :=
  OpenClaim.holds_of_wide 3 Tryz.f3 rfl rfl rfl rfl rfl rfl rfl ⟨rfl, rfl, rfl, rfl, rfl⟩ rfl rfl rfl rfl rfl MobThree_named Tryz.func3 MobThree_facts MobThree_inst MobThree_wrap
    (fun os started H enc _ => MobThree_lifted os started H enc)

/-- The statement. -/
theorem MobThree_holds : Rows.MobThreeSaid := MobThree_over
#print axioms MobThree_holds
end Go.Proofs.YtiolbdleihiocaaGreat
