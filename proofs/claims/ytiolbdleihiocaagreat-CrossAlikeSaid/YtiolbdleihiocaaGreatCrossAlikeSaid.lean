/- The statement CrossAlike (layer 10) holds of every input: of any two rows of four points the program says as the document does whether a map takes the ones to the others, turned or not, or refuses. No condition. -/
import Derived.Test.YtiolbdleihiocaaGreatRows
import Derived.Test.YtiolbdleihiocaaGreatPk16
set_option linter.unnecessarySimpa false
set_option linter.unusedVariables false
set_option linter.unusedSimpArgs false
namespace Go.Proofs.YtiolbdleihiocaaGreat
open Go.ChangeShapes Go.WideShapes Go.ChangeAt Go.RowKit
theorem own_knob : ownKnob Tryz.prog.godebug = none := by kernel_rfl
theorem laid_out : laidOutB Tryz.prog = true := by kernel_rfl
set_option maxRecDepth 100000 in
theorem CrossAlike_lifted (os : Os) (started : os.Started) (H : Type) (enc : TypeId × Value → H) :
    ReturnsInHanded {} Tryz.checked os 9 .any (Rows.crossAlikeSpec.pre6 enc Tryz.prog Tryz.f9 Rows.crossAlikeRow.domain false) (Rows.crossAlikeSpec.post enc Tryz.prog Tryz.f9 false true false false) := by
  refine returnsInHanded_of_change (C := Tryz.checked) own_knob started (by kernel_rfl) Tryz.func9
    (ChangeSpec.witness6 (enc := enc) (C := Tryz.checked) false ⟨#[], #[.agg #[.bool false, .bool false, .string ⟨#[]⟩, .bool false, .string ⟨#[]⟩, .bool false, .string ⟨#[]⟩, .bool false, .string ⟨#[]⟩, .bool false, .bool false, .string ⟨#[]⟩, .bool false, .string ⟨#[]⟩, .bool false, .string ⟨#[]⟩, .bool false, .string ⟨#[]⟩, .bool false, .bool false, .string ⟨#[]⟩, .bool false, .string ⟨#[]⟩, .bool false, .string ⟨#[]⟩, .bool false, .string ⟨#[]⟩, .bool false, .bool false, .string ⟨#[]⟩, .bool false, .string ⟨#[]⟩, .bool false, .string ⟨#[]⟩, .bool false, .string ⟨#[]⟩], .agg #[.bool false, .bool false, .string ⟨#[]⟩, .bool false, .string ⟨#[]⟩, .bool false, .string ⟨#[]⟩, .bool false, .string ⟨#[]⟩, .bool false, .bool false, .string ⟨#[]⟩, .bool false, .string ⟨#[]⟩, .bool false, .string ⟨#[]⟩, .bool false, .string ⟨#[]⟩, .bool false, .bool false, .string ⟨#[]⟩, .bool false, .string ⟨#[]⟩, .bool false, .string ⟨#[]⟩, .bool false, .string ⟨#[]⟩, .bool false, .bool false, .string ⟨#[]⟩, .bool false, .string ⟨#[]⟩, .bool false, .string ⟨#[]⟩, .bool false, .string ⟨#[]⟩]], []⟩ 12 (by kernel_rfl) (by kernel_rfl) (by kernel_rfl) (by kernel_rfl)) ?_
  intro W base args ds gs before hval0 hW hcnd _
  have hval : ∀ (j : Nat) t v, Tryz.f9.params[j]? = some t → args[j]? = some v → Value.okWide Tryz.prog W .any base t v := hval0
  have hW' := hW
  obtain ⟨p, q, hA0, hV, rfl, hfz, hnd⟩ := hW
  have hA : DataW.TrodAll enc Tryz.prog W 0 (fun _ => true) true Tryz.f9.params.toList args.toList ds p := hA0
  rw [Tryz.params9] at hA hval
  obtain ⟨v0, vs0, d0, ds0, p0, q0, hargs, rfl, rfl, h0, r0⟩ := trodAll_cons hA
  obtain ⟨v1, vs1, d1, ds1, p1, q1, rfl, rfl, rfl, h1, r1⟩ := trodAll_cons r0
  obtain ⟨rfl, rfl, rfl⟩ := trodAll_nil r1
  obtain rfl : args = #[v0, v1] := by cases args; simp_all
  obtain ⟨rfl, rfl⟩ := trodVars_none hV
  have k0 := h0
  have lt0 : ∀ x ∈ p0, x.block < W.heap.size := by obtain ⟨m, hm⟩ := k0; exact DataW.trod_lt m _ _ _ hm
  have k1 := h1
  have lt1 : ∀ x ∈ p1, x.block < W.heap.size := by obtain ⟨m, hm⟩ := k1; exact DataW.trod_lt m _ _ _ hm
  obtain ⟨i1_0, i1_1, i1_2, i1_3, x1_0, y1_0, x1_1, y1_1, x1_2, y1_2, x1_3, y1_3, rfl, o1_0, o1_1, o1_2, o1_3⟩ := open_p4 (hval 0 _ v0 rfl rfl) h0
  obtain ⟨i2_0, i2_1, i2_2, i2_3, x2_0, y2_0, x2_1, y2_1, x2_2, y2_2, x2_3, y2_3, rfl, o2_0, o2_1, o2_2, o2_3⟩ := open_p4 (hval 1 _ v1 rfl rfl) h1
  clear hA0 hval0
  refine (CrossAlike_walk ⟨i1_0, x1_0, y1_0⟩ ⟨i1_1, x1_1, y1_1⟩ ⟨i1_2, x1_2, y1_2⟩ ⟨i1_3, x1_3, y1_3⟩ ⟨i2_0, x2_0, y2_0⟩ ⟨i2_1, x2_1, y2_1⟩ ⟨i2_2, x2_2, y2_2⟩ ⟨i2_3, x2_3, y2_3⟩ o1_0 o1_1 o1_2 o1_3 o2_0 o2_1 o2_2 o2_3 W).mono fun e W' ⟨he, bel⟩ => ?_
  subst he
  exact ⟨_, rfl, _, _, _, [], _, [], hW', trodAll_mk1 (shut_bool Tryz.underlying4 _), (trodAll_cons_mk (Below.trod laid_out (by kernel_rfl) (of_decide_eq_true (by kernel_rfl)) k0 bel lt0) (trodAll_cons_mk (Below.trod laid_out (by kernel_rfl) (of_decide_eq_true (by kernel_rfl)) k1 bel lt1) trodAll_mk0)), rfl, bel.frame _, fun h => by cases h⟩
theorem and2 {a b : Bool} (h : a = true) (k : b = true) : (a && b) = true := by rw [h, k]; rfl
theorem CrossAlike_named : Tryz.pinned.checked.prog.funcNamed Rows.crossAlikeRow.func = some 9 := by kernel_rfl
set_option maxHeartbeats 8000000 in
theorem CrossAlike_facts : joinedFacts Tryz.pinned.checked.prog 9 Tryz.f9 Rows.crossAlikeSpec Rows.crossAlikeRow = true := by
  unfold joinedFacts
  repeat' (with_reducible apply and2)
  all_goals as_aux_lemma => kernel_rfl
theorem CrossAlike_inst : Tryz.f9.isInstance Tryz.pinned.checked.prog Rows.crossAlikeRow.origin Rows.crossAlikeRow.targs := of_decide_eq_true (by kernel_rfl)
theorem CrossAlike_wrap : Tryz.f9.isWrapper Tryz.pinned.checked.prog Rows.crossAlikeRow.wrapper Rows.crossAlikeRow.mainSum := by unfold Func.isWrapper; first | (rw [if_pos (by decide +kernel)]; kernel_rfl) | (rw [if_neg (by decide +kernel)]; exact ⟨rfl, rfl⟩)
theorem CrossAlike_over : Rows.crossAlikeRow.holds Tryz.pinned (OpenSpec.ofChange Rows.crossAlikeSpec) :=
  OpenClaim.holds_of_wide 9 Tryz.f9 rfl rfl rfl rfl rfl rfl rfl ⟨rfl, rfl, rfl, rfl, rfl⟩ rfl rfl rfl rfl rfl CrossAlike_named Tryz.func9 CrossAlike_facts CrossAlike_inst CrossAlike_wrap
    (fun os started H enc _ => CrossAlike_lifted os started H enc)
theorem CrossAlike_holds : Rows.CrossAlikeSaid := CrossAlike_over
#print axioms CrossAlike_holds
end Go.Proofs.YtiolbdleihiocaaGreat
