/- The statement CircThrough (layer 11) holds of every input: through any three points, that may be or not, one circle, or the refusal. No condition. -/
import Derived.Test.YtfnmclgicjmapaaGreatRows
import Derived.Test.YtfnmclgicjmapaaGreatPk14
set_option linter.unnecessarySimpa false
set_option linter.unusedVariables false
set_option linter.unusedSimpArgs false
namespace Go.Proofs.YtfnmclgicjmapaaGreat
open Go.ChangeShapes Go.WideShapes Go.ChangeAt Go.RowKit
theorem own_knob : ownKnob Tryz.prog.godebug = none := by kernel_rfl
theorem laid_out : laidOutB Tryz.prog = true := by kernel_rfl
set_option maxRecDepth 100000 in
theorem CircThrough_lifted (os : Os) (started : os.Started) (H : Type) (enc : TypeId × Value → H) :
    ReturnsInHanded {} Tryz.checked os 12 .any (Rows.circThroughSpec.pre6 enc Tryz.prog Tryz.f12 Rows.circThroughRow.domain false) (Rows.circThroughSpec.post enc Tryz.prog Tryz.f12 false true false false) := by
  refine returnsInHanded_of_change (C := Tryz.checked) own_knob started (by kernel_rfl) Tryz.func12
    (ChangeSpec.witness6 (enc := enc) (C := Tryz.checked) false ⟨#[], #[.agg #[.bool false, .bool false, .string ⟨#[]⟩, .bool false, .string ⟨#[]⟩, .bool false, .string ⟨#[]⟩, .bool false, .string ⟨#[]⟩, .bool false, .bool false, .string ⟨#[]⟩, .bool false, .string ⟨#[]⟩, .bool false, .string ⟨#[]⟩, .bool false, .string ⟨#[]⟩, .bool false, .bool false, .string ⟨#[]⟩, .bool false, .string ⟨#[]⟩, .bool false, .string ⟨#[]⟩, .bool false, .string ⟨#[]⟩]], []⟩ 12 (by kernel_rfl) (by kernel_rfl) (by kernel_rfl) (by kernel_rfl)) ?_
  intro W base args ds gs before hval0 hW hcnd _
  have hval : ∀ (j : Nat) t v, Tryz.f12.params[j]? = some t → args[j]? = some v → Value.okWide Tryz.prog W .any base t v := hval0
  have hW' := hW
  obtain ⟨p, q, hA0, hV, rfl, hfz, hnd⟩ := hW
  have hA : DataW.TrodAll enc Tryz.prog W 0 (fun _ => true) true Tryz.f12.params.toList args.toList ds p := hA0
  rw [Tryz.params12] at hA hval
  obtain ⟨v0, vs0, d0, ds0, p0, q0, hargs, rfl, rfl, h0, r0⟩ := trodAll_cons hA
  obtain ⟨rfl, rfl, rfl⟩ := trodAll_nil r0
  obtain rfl : args = #[v0] := by cases args; simp_all
  obtain ⟨rfl, rfl⟩ := trodVars_none hV
  have k0 := h0
  have lt0 : ∀ x ∈ p0, x.block < W.heap.size := by obtain ⟨m, hm⟩ := k0; exact DataW.trod_lt m _ _ _ hm
  obtain ⟨i1_0, i1_1, i1_2, x1_0, y1_0, x1_1, y1_1, x1_2, y1_2, rfl, o1_0, o1_1, o1_2⟩ := open_p3 (hval 0 _ v0 rfl rfl) h0
  clear hA0 hval0
  refine (CircThrough_walk ⟨i1_0, x1_0, y1_0⟩ ⟨i1_1, x1_1, y1_1⟩ ⟨i1_2, x1_2, y1_2⟩ o1_0 o1_1 o1_2 W).mono fun e W' ⟨he, bel⟩ => ?_
  subst he
  exact ⟨_, rfl, _, _, _, [], _, [], hW', trodAll_mk1 (shut_bool Tryz.underlying4 _), (trodAll_cons_mk (Below.trod laid_out (by kernel_rfl) (of_decide_eq_true (by kernel_rfl)) k0 bel lt0) trodAll_mk0), rfl, bel.frame _, fun h => by cases h⟩
theorem and2 {a b : Bool} (h : a = true) (k : b = true) : (a && b) = true := by rw [h, k]; rfl
theorem CircThrough_named : Tryz.pinned.checked.prog.funcNamed Rows.circThroughRow.func = some 12 := by kernel_rfl
set_option maxHeartbeats 8000000 in
theorem CircThrough_facts : joinedFacts Tryz.pinned.checked.prog 12 Tryz.f12 Rows.circThroughSpec Rows.circThroughRow = true := by
  unfold joinedFacts
  repeat' (with_reducible apply and2)
  all_goals as_aux_lemma => kernel_rfl
theorem CircThrough_inst : Tryz.f12.isInstance Tryz.pinned.checked.prog Rows.circThroughRow.origin Rows.circThroughRow.targs := of_decide_eq_true (by kernel_rfl)
theorem CircThrough_wrap : Tryz.f12.isWrapper Tryz.pinned.checked.prog Rows.circThroughRow.wrapper Rows.circThroughRow.mainSum := by unfold Func.isWrapper; first | (rw [if_pos (by decide +kernel)]; kernel_rfl) | (rw [if_neg (by decide +kernel)]; exact ⟨rfl, rfl⟩)
theorem CircThrough_over : Rows.circThroughRow.holds Tryz.pinned (OpenSpec.ofChange Rows.circThroughSpec) :=
  OpenClaim.holds_of_wide 12 Tryz.f12 rfl rfl rfl rfl rfl rfl rfl ⟨rfl, rfl, rfl, rfl, rfl⟩ rfl rfl rfl rfl rfl CircThrough_named Tryz.func12 CircThrough_facts CircThrough_inst CircThrough_wrap
    (fun os started H enc _ => CircThrough_lifted os started H enc)
theorem CircThrough_holds : Rows.CircThroughSaid := CircThrough_over
#print axioms CircThrough_holds
end Go.Proofs.YtfnmclgicjmapaaGreat
