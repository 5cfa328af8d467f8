/- The statement GaussTexts (layer 4) holds of every input: the text of any number, and what any text says, as the document tells them. The tables that the row lists are as the program's text lays them; no other condition. -/
import Derived.Test.YthkpghhoffihmaaGreatDoorRows
import Derived.Test.YthkpghhoffihmaaGreatDoorCards
import Derived.Test.YthkpghhoffihmaaGreatDoorTie
import Derived.ProofKit
import Derived.OpenShut
import Derived.ChangeMaps5
import Derived.Deep.DeepHandedRow
import Derived.Lib.LaidTab
import Derived.Lay
import Derived.Test.YthkpghhoffihmaaGreatDoorGk15
set_option linter.unnecessarySimpa false
set_option linter.unusedVariables false
set_option linter.unusedSimpArgs false
namespace Go.Proofs.YthkpghhoffihmaaGreatDoor
open Go.ChangeShapes Go.WideShapes Go.ChangeAt Go.RowKit
theorem own_knob:ownKnob Tryz.prog.godebug=none:=by kernel_rfl
theorem laid_out:laidOutB Tryz.prog=true:=by kernel_rfl
set_option maxRecDepth 100000 in
theorem GaussTexts_contract (H:Type) (enc:TypeId × Value→H) (W:World) (base:Nat) (args:Array Value) (ds gs:List (DataW H)) (before:List MemPlace)
  (hval0:∀ (j:Nat) t v,Tryz.f5.params[j]?=some t→args[j]?=some v→Value.okWide Tryz.prog W .any base t v)
  (hW:DataW.Whole enc Tryz.prog Tryz.f5.params.toList Rows.gaussTextsSpec.vars false W args.toList ds gs before) :
  Calls Tryz.prog 5 args W fun e W'=>∃ v,e=.returned v∧Rows.gaussTextsSpec.post enc Tryz.prog Tryz.f5 false true false false W args v W':=by
 have hval:=hval0
 have hW':=hW
 obtain ⟨p,q,hA0,hV,rfl,hfz,hnd⟩:=hW
 have hA:DataW.TrodAll enc Tryz.prog W 0 (fun _=>true) true Tryz.f5.params.toList args.toList ds p:=hA0
 rw [Tryz.params5] at hA hval
 obtain ⟨v0,vs0,d0,ds0,p0,q0,hargs,rfl,rfl,h0,r0⟩:=trodAll_cons hA
 obtain ⟨v1,vs1,d1,ds1,p1,q1,rfl,rfl,rfl,h1,r1⟩:=trodAll_cons r0
 obtain ⟨rfl,rfl,rfl⟩:=trodAll_nil r1
 obtain rfl:args=#[v0,v1]:=by cases args; simp_all
 obtain ⟨rfl,rfl⟩:=trodVars_none hV
 have k0:=h0
 have lt0:∀ x∈p0,x.block<W.heap.size:=by obtain ⟨m,hm⟩:=k0; exact DataW.trod_lt m _ _ _ hm
 have k1:=h1
 obtain ⟨x1,y1,rfl,o1⟩:=open_gauss (hval 0 _ v0 rfl rfl) h0
 obtain ⟨u2,rfl,rfl,rfl,w2⟩:=Go.ChangeMaps.open_string Tryz.underlying9 (hval 1 _ v1 rfl rfl) h1
 clear hA0
 refine (GaussTexts_walk x1 y1 u2 o1 W).mono fun e W' ⟨he,bel⟩=>?_
 subst he
 exact ⟨_,rfl,_,_,_,[],_,[],hW',trodAll_mk1 (shut_bool Tryz.underlying4 _),(trodAll_cons_mk (Below.trod laid_out (by kernel_rfl) (of_decide_eq_true (by kernel_rfl)) k0 bel lt0) (trodAll_cons_mk (Go.ChangeMaps.shut_string Tryz.underlying9 w2) trodAll_mk0)),rfl,bel.frame _,fun h=>by cases h⟩
theorem GaussTexts_laid (os:Os):laidMet Tryz.prog Rows.gaussTextsRow.laid ((World.laidAll Tryz.prog os Rows.gaussTextsRow.laid).forCall (fun _ _=>0) ⟨#[],#[.agg #[.bool false,.string ⟨#[]⟩,.bool false,.string ⟨#[]⟩,.bool false,.string ⟨#[]⟩,.bool false,.string ⟨#[]⟩],.string ⟨#[]⟩],[]⟩).memory:=laidMet_laidAll _ (by kernel_rfl) (by kernel_rfl)
theorem GaussTexts_reads (os:Os) {H:Type} (enc:TypeId × Value→H):∃ places,DataW.whole enc Tryz.prog ((World.laidAll Tryz.prog os Rows.gaussTextsRow.laid).forCall (fun _ _=>0) ⟨#[],#[.agg #[.bool false,.string ⟨#[]⟩,.bool false,.string ⟨#[]⟩,.bool false,.string ⟨#[]⟩,.bool false,.string ⟨#[]⟩],.string ⟨#[]⟩],[]⟩).memory Tryz.f5.params.toList Rows.gaussTextsSpec.vars false (#[.agg #[.bool false,.string ⟨#[]⟩,.bool false,.string ⟨#[]⟩,.bool false,.string ⟨#[]⟩,.bool false,.string ⟨#[]⟩],.string ⟨#[]⟩]:Array Value).toList 12=some ([.agg [.agg [.agg [.lit (.bool false),.lit (.string [])],.agg [.lit (.bool false),.lit (.string [])]],.agg [.agg [.lit (.bool false),.lit (.string [])],.agg [.lit (.bool false),.lit (.string [])]]],.lit (.string [])],[],places):=⟨[],by kernel_rfl⟩
set_option maxRecDepth 100000 in
theorem GaussTexts_lifted (os:Os) (started:os.Started) (H:Type) (enc:TypeId × Value→H) (F:Stop.Interp) :
  ReturnsInHanded {} Tryz.checked os 5 .any ((OpenSpec.ofChange Rows.gaussTextsSpec).preRow enc Tryz.prog Tryz.f5 Rows.gaussTextsRow.domain false Rows.gaussTextsRow.laid) (((OpenSpec.ofChange Rows.gaussTextsSpec).at F).post enc Tryz.prog Tryz.f5 false true false false):=by
 obtain ⟨places,hx⟩:=GaussTexts_reads os enc
 refine returnsInHanded_of_row (C:=Tryz.checked) (s:=(OpenSpec.ofChange Rows.gaussTextsSpec)) own_knob started (by kernel_rfl) Tryz.func5
  (witness_row_at (enc:=enc) (C:=Tryz.checked) false (World.laidAll Tryz.prog os Rows.gaussTextsRow.laid) #[.agg #[.bool false,.string ⟨#[]⟩,.bool false,.string ⟨#[]⟩,.bool false,.string ⟨#[]⟩,.bool false,.string ⟨#[]⟩],.string ⟨#[]⟩] (World.laidAll_os _ _ _) (by kernel_rfl) (by kernel_rfl) (by kernel_rfl)
   (OpenSpec.preRow_of_cond 12 hx (by kernel_rfl) (fun k hk=>by cases hk) (by kernel_rfl) (GaussTexts_laid os))) ?_
 intro W base args ds gs before hval hW _ _ _ _ _ _
 exact GaussTexts_contract H enc W base args ds gs before hval hW
theorem and2 {a b:Bool} (h:a=true) (k:b=true):(a&&b)=true:=by rw [h,k]; rfl
theorem GaussTexts_named:Tryz.pinned.checked.prog.funcNamed Rows.gaussTextsRow.func=some 5:=by kernel_rfl
set_option maxHeartbeats 8000000 in
theorem GaussTexts_facts:joinedFacts Tryz.pinned.checked.prog 5 Tryz.f5 (OpenSpec.ofChange Rows.gaussTextsSpec).bare Rows.gaussTextsRow=true:=by
 unfold joinedFacts
 repeat' (with_reducible apply and2)
 all_goals as_aux_lemma=>kernel_rfl
theorem GaussTexts_inst:Tryz.f5.isInstance Tryz.pinned.checked.prog Rows.gaussTextsRow.origin Rows.gaussTextsRow.targs:=of_decide_eq_true (by kernel_rfl)
theorem GaussTexts_wrap:Tryz.f5.isWrapper Tryz.pinned.checked.prog Rows.gaussTextsRow.wrapper Rows.gaussTextsRow.mainSum:=by unfold Func.isWrapper; first | (rw [if_pos (by decide +kernel)]; kernel_rfl) | (rw [if_neg (by decide +kernel)]; exact ⟨rfl,rfl⟩)
theorem GaussTexts_over:Rows.gaussTextsRow.holds Tryz.pinned (OpenSpec.ofChange Rows.gaussTextsSpec) :=
 OpenClaim.holds_of_cond 5 Tryz.f5 rfl rfl rfl rfl rfl rfl rfl ⟨rfl,rfl,rfl,rfl,rfl⟩ rfl rfl rfl rfl rfl GaussTexts_named Tryz.func5 GaussTexts_facts GaussTexts_inst GaussTexts_wrap
  (fun os started H enc _ F=>by rw [OpenClaim.pre_eq_preRow]; exact GaussTexts_lifted os started H enc F)
theorem GaussTexts_plain (f:FuncId) (fn:Func) (hf:Tryz.pinned.checked.prog.funcNamed Rows.gaussTextsRow.func=some f) (hfn:Tryz.pinned.checked.prog.funcs[f]?=some fn):false=Tryz.pinned.checked.prog.looks []∧∀ (j:Nat) t,fn.params[j]?=some t→Tryz.pinned.checked.prog.wantsStandIn t=false:=by
 obtain rfl:f=5:=(Option.some.inj (GaussTexts_named.symm.trans hf)).symm
 obtain rfl:fn=Tryz.f5:=(Option.some.inj (Tryz.func5.symm.trans hfn)).symm
 refine ⟨by kernel_rfl,fun j t ht=>?_⟩
 have hall:(Tryz.f5.params.toList.all fun u=>!Tryz.prog.wantsStandIn u)=true:=by kernel_rfl
 have hm:t∈Tryz.f5.params.toList:=by
  rw [← Array.getElem?_toList] at ht
  exact List.mem_of_getElem? ht
 have:=List.all_eq_true.1 hall t hm
 exact (show Tryz.prog.wantsStandIn t=false by simpa using this)
theorem GaussTexts_holds:Rows.GaussTextsCardSaid :=
 Claim7.holds_tied_plain_at .later [] _ _ _ _ GaussTexts_over (fun _ h=>by cases h) (by kernel_rfl) (fun _ h=>by cases h) gaussTexts_row_tie rfl ⟨rfl,rfl⟩ (by kernel_rfl) rfl GaussTexts_plain (by kernel_rfl)
#print axioms GaussTexts_holds
end Go.Proofs.YthkpghhoffihmaaGreatDoor
