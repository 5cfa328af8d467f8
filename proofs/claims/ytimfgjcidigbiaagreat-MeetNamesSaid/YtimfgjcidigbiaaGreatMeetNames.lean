/- The statement MeetNames (layer 13) holds: the names' numbers, the known rows. No condition. -/
import Derived.Test.YtimfgjcidigbiaaGreatRows
import Derived.Test.YtimfgjcidigbiaaGreatPk16
set_option linter.unnecessarySimpa false
set_option linter.unusedVariables false
set_option linter.unusedSimpArgs false
namespace Go.Proofs.YtimfgjcidigbiaaGreat
open Go.ChangeShapes Go.WideShapes Go.ChangeAt Go.RowKit
theorem own_knob : ownKnob Tryz.prog.godebug = none:=by kernel_rfl
theorem laid_out : laidOutB Tryz.prog = true:=by kernel_rfl
set_option maxRecDepth 100000 in
theorem MeetNames_lifted (os : Os) (started : os.Started) (H : Type) (enc : TypeId × Value → H) :
    ReturnsInHanded {} Tryz.checked os 6 .any (Rows.meetNamesSpec.pre6 enc Tryz.prog Tryz.f6 Rows.meetNamesRow.domain false) (Rows.meetNamesSpec.post enc Tryz.prog Tryz.f6 false true false false):=by
  refine returnsInHanded_of_change (C:=Tryz.checked) own_knob started (by kernel_rfl) Tryz.func6
    (ChangeSpec.witness6 (enc:=enc) (C:=Tryz.checked) false ⟨#[],#[],[]⟩ 12 (by kernel_rfl) (by kernel_rfl) (by kernel_rfl) (by kernel_rfl)) ?_
  intro W base args ds gs before hval0 hW hcnd _
  have hval : ∀ (j : Nat) t v,Tryz.f6.params[j]? = some t → args[j]? = some v → Value.okWide Tryz.prog W .any base t v:=hval0
  have hW':=hW
  obtain ⟨p,q,hA0,hV,rfl,hfz,hnd⟩:=hW
  have hA : DataW.TrodAll enc Tryz.prog W 0 (fun _=>true) true Tryz.f6.params.toList args.toList ds p:=hA0
  rw [Tryz.params6] at hA hval
  obtain ⟨hargs,rfl,rfl⟩:=trodAll_nil hA
  obtain rfl : args = #[]:=by cases args; simp_all
  obtain ⟨rfl,rfl⟩:=trodVars_none hV
  clear hA0 hval0
  refine (MeetNames_walk  W).mono fun e W' ⟨he,bel⟩=>?_
  subst he
  exact ⟨_,rfl,_,_,_,[],_,[],hW',trodAll_mk1 (shut_bool Tryz.underlying4 _),trodAll_mk0,rfl,bel.frame _,fun h=>by cases h⟩
theorem and2 {a b : Bool} (h : a = true) (k : b = true) : (a && b) = true:=by rw [h,k]; rfl
theorem MeetNames_named : Tryz.pinned.checked.prog.funcNamed Rows.meetNamesRow.func = some 6:=by kernel_rfl
set_option maxHeartbeats 8000000 in
theorem MeetNames_facts : joinedFacts Tryz.pinned.checked.prog 6 Tryz.f6 Rows.meetNamesSpec Rows.meetNamesRow = true:=by
  unfold joinedFacts
  repeat' (with_reducible apply and2)
  all_goals as_aux_lemma=>kernel_rfl
theorem MeetNames_inst : Tryz.f6.isInstance Tryz.pinned.checked.prog Rows.meetNamesRow.origin Rows.meetNamesRow.targs:=of_decide_eq_true (by kernel_rfl)
theorem MeetNames_wrap : Tryz.f6.isWrapper Tryz.pinned.checked.prog Rows.meetNamesRow.wrapper Rows.meetNamesRow.mainSum:=by unfold Func.isWrapper; first | (rw [if_pos (by decide +kernel)]; kernel_rfl) | (rw [if_neg (by decide +kernel)]; exact ⟨rfl,rfl⟩)
theorem MeetNames_over : Rows.meetNamesRow.holds Tryz.pinned (OpenSpec.ofChange Rows.meetNamesSpec) :=
  OpenClaim.holds_of_wide 6 Tryz.f6 rfl rfl rfl rfl rfl rfl rfl ⟨rfl,rfl,rfl,rfl,rfl⟩ rfl rfl rfl rfl rfl MeetNames_named Tryz.func6 MeetNames_facts MeetNames_inst MeetNames_wrap
    (fun os started H enc _=>MeetNames_lifted os started H enc)
theorem MeetNames_holds : Rows.MeetNamesSaid:=MeetNames_over
#print axioms MeetNames_holds
end Go.Proofs.YtimfgjcidigbiaaGreat
