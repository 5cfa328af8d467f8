/- The statement FracTexts (layer 3) holds of every input of bulk at most 1048576: a fraction told, a text read, as the document says. The tables that the row lists are as the program's text lays them; no other condition. -/
import Derived.Test.YthkpghhoffihmaaGreatDoorRows
import Derived.Test.YthkpghhoffihmaaGreatDoorCards
import Derived.Test.YthkpghhoffihmaaGreatDoorTie
import Derived.ProofKit
import Derived.OpenShut
import Derived.ChangeMaps5
import Derived.Deep.DeepHandedRow
import Derived.Lib.LaidTab
import Derived.Lay
import Derived.Test.YthkpghhoffihmaaGreatDoorNk13
set_option linter.unnecessarySimpa false
set_option linter.unusedVariables false
set_option linter.unusedSimpArgs false
namespace Go.Proofs.YthkpghhoffihmaaGreatDoor
open Go.ChangeShapes Go.WideShapes Go.ChangeAt Go.RowKit
theorem own_knob:ownKnob Tryz.prog.godebug=none:=by kernel_rfl
theorem laid_out:laidOutB Tryz.prog=true:=by kernel_rfl
set_option maxRecDepth 100000 in
theorem FracTexts_contract (H:Type) (enc:TypeId × Value→H) (W:World) (base:Nat) (args:Array Value) (ds gs:List (DataW H)) (before:List MemPlace)
  (hval0:∀ (j:Nat) t v,Tryz.f4.params[j]?=some t→args[j]?=some v→Value.okWide Tryz.prog W .any base t v)
  (hW:DataW.Whole enc Tryz.prog Tryz.f4.params.toList Rows.fracTextsSpec.vars false W args.toList ds gs before) (hk:Rows.uptoSmall H (ds++gs)=true) :
  Calls Tryz.prog 4 args W fun e W'=>∃ v,e=.returned v∧Rows.fracTextsSpec.post enc Tryz.prog Tryz.f4 false true false false W args v W':=by
 have hval:=hval0
 have hW':=hW
 obtain ⟨p,q,hA0,hV,rfl,hfz,hnd⟩:=hW
 have hA:DataW.TrodAll enc Tryz.prog W 0 (fun _=>true) true Tryz.f4.params.toList args.toList ds p:=hA0
 rw [Tryz.params4] at hA hval
 obtain ⟨v0,vs0,d0,ds0,p0,q0,hargs,rfl,rfl,h0,r0⟩:=trodAll_cons hA
 obtain ⟨v1,vs1,d1,ds1,p1,q1,rfl,rfl,rfl,h1,r1⟩:=trodAll_cons r0
 obtain ⟨rfl,rfl,rfl⟩:=trodAll_nil r1
 obtain rfl:args=#[v0,v1]:=by cases args; simp_all
 obtain ⟨rfl,rfl⟩:=trodVars_none hV
 have k0:=h0
 have lt0:∀ x∈p0,x.block<W.heap.size:=by obtain ⟨m,hm⟩:=k0; exact DataW.trod_lt m _ _ _ hm
 have k1:=h1
 obtain ⟨b1,c1,s1,t1,rfl,hs1,ht1⟩:=open_frac (hval 0 _ v0 rfl rfl) h0
 obtain ⟨u2,rfl,rfl,rfl,w2⟩:=Go.ChangeMaps.open_string Tryz.underlying9 (hval 1 _ v1 rfl rfl) h1
 have hb:=of_decide_eq_true hk
 simp only [List.append_nil,Rows.uptoBulkAll,Rows.uptoBulk] at hb
 have hu2:u2.size<4294967281:=by
  rw [Lib.size_eq]
  omega
 clear hA0
 refine (FracTexts_walk b1 c1 s1 t1 u2 hs1 ht1 hu2 W).mono fun e W' ⟨he,bel⟩=>?_
 subst he
 exact ⟨_,rfl,_,_,_,[],_,[],hW',trodAll_mk1 (shut_bool Tryz.underlying4 _),(trodAll_cons_mk (Below.trod laid_out (by kernel_rfl) (of_decide_eq_true (by kernel_rfl)) k0 bel lt0) (trodAll_cons_mk (Go.ChangeMaps.shut_string Tryz.underlying9 w2) trodAll_mk0)),rfl,bel.frame _,fun h=>by cases h⟩
theorem FracTexts_laid (os:Os):laidMet Tryz.prog Rows.fracTextsUptoRow.laid ((World.laidAll Tryz.prog os Rows.fracTextsUptoRow.laid).forCall (fun _ _=>0) ⟨#[],#[.agg #[.bool false,.string ⟨#[]⟩,.bool false,.string ⟨#[]⟩],.string ⟨#[]⟩],[]⟩).memory:=laidMet_laidAll _ (by kernel_rfl) (by kernel_rfl)
theorem FracTexts_reads (os:Os) {H:Type} (enc:TypeId × Value→H):∃ places,DataW.whole enc Tryz.prog ((World.laidAll Tryz.prog os Rows.fracTextsUptoRow.laid).forCall (fun _ _=>0) ⟨#[],#[.agg #[.bool false,.string ⟨#[]⟩,.bool false,.string ⟨#[]⟩],.string ⟨#[]⟩],[]⟩).memory Tryz.f4.params.toList Rows.fracTextsSpec.vars false (#[.agg #[.bool false,.string ⟨#[]⟩,.bool false,.string ⟨#[]⟩],.string ⟨#[]⟩]:Array Value).toList 12=some ([.agg [.agg [.lit (.bool false),.lit (.string [])],.agg [.lit (.bool false),.lit (.string [])]],.lit (.string [])],[],places):=⟨[],by kernel_rfl⟩
set_option maxRecDepth 100000 in
theorem FracTexts_lifted (os:Os) (started:os.Started) (H:Type) (enc:TypeId × Value→H) (F:Stop.Interp) :
  ReturnsInHanded {} Tryz.checked os 4 .any ((Rows.OpenSpec.upto Rows.fracTextsSpec).preRow enc Tryz.prog Tryz.f4 Rows.fracTextsUptoRow.domain false Rows.fracTextsUptoRow.laid) (((Rows.OpenSpec.upto Rows.fracTextsSpec).at F).post enc Tryz.prog Tryz.f4 false true false false):=by
 obtain ⟨places,hx⟩:=FracTexts_reads os enc
 refine returnsInHanded_of_row (C:=Tryz.checked) (s:=(Rows.OpenSpec.upto Rows.fracTextsSpec)) own_knob started (by kernel_rfl) Tryz.func4
  (witness_row_at (enc:=enc) (C:=Tryz.checked) false (World.laidAll Tryz.prog os Rows.fracTextsUptoRow.laid) #[.agg #[.bool false,.string ⟨#[]⟩,.bool false,.string ⟨#[]⟩],.string ⟨#[]⟩] (World.laidAll_os _ _ _) (by kernel_rfl) (by kernel_rfl) (by kernel_rfl)
   (OpenSpec.preRow_of_cond 12 hx (by kernel_rfl) (fun k hk=>by cases hk; kernel_rfl) (by kernel_rfl) (FracTexts_laid os))) ?_
 intro W base args ds gs before hval hW _ hcond _ _ _ _
 exact FracTexts_contract H enc W base args ds gs before hval hW (hcond _ rfl)
theorem and2 {a b:Bool} (h:a=true) (k:b=true):(a&&b)=true:=by rw [h,k]; rfl
theorem FracTexts_named:Tryz.pinned.checked.prog.funcNamed Rows.fracTextsUptoRow.func=some 4:=by kernel_rfl
set_option maxHeartbeats 8000000 in
theorem FracTexts_facts:joinedFacts Tryz.pinned.checked.prog 4 Tryz.f4 (Rows.OpenSpec.upto Rows.fracTextsSpec).bare Rows.fracTextsUptoRow=true:=by
 unfold joinedFacts
 repeat' (with_reducible apply and2)
 all_goals as_aux_lemma=>kernel_rfl
theorem FracTexts_inst:Tryz.f4.isInstance Tryz.pinned.checked.prog Rows.fracTextsUptoRow.origin Rows.fracTextsUptoRow.targs:=of_decide_eq_true (by kernel_rfl)
theorem FracTexts_wrap:Tryz.f4.isWrapper Tryz.pinned.checked.prog Rows.fracTextsUptoRow.wrapper Rows.fracTextsUptoRow.mainSum:=by unfold Func.isWrapper; first | (rw [if_pos (by decide +kernel)]; kernel_rfl) | (rw [if_neg (by decide +kernel)]; exact ⟨rfl,rfl⟩)
theorem FracTexts_over:Rows.fracTextsUptoRow.holds Tryz.pinned (Rows.OpenSpec.upto Rows.fracTextsSpec) :=
 OpenClaim.holds_of_cond 4 Tryz.f4 rfl rfl rfl rfl rfl rfl rfl ⟨rfl,rfl,rfl,rfl,rfl⟩ rfl rfl rfl rfl rfl FracTexts_named Tryz.func4 FracTexts_facts FracTexts_inst FracTexts_wrap
  (fun os started H enc _ F=>by rw [OpenClaim.pre_eq_preRow]; exact FracTexts_lifted os started H enc F)
theorem FracTexts_plain (f:FuncId) (fn:Func) (hf:Tryz.pinned.checked.prog.funcNamed Rows.fracTextsUptoRow.func=some f) (hfn:Tryz.pinned.checked.prog.funcs[f]?=some fn):false=Tryz.pinned.checked.prog.looks []∧∀ (j:Nat) t,fn.params[j]?=some t→Tryz.pinned.checked.prog.wantsStandIn t=false:=by
 obtain rfl:f=4:=(Option.some.inj (FracTexts_named.symm.trans hf)).symm
 obtain rfl:fn=Tryz.f4:=(Option.some.inj (Tryz.func4.symm.trans hfn)).symm
 refine ⟨by kernel_rfl,fun j t ht=>?_⟩
 have hall:(Tryz.f4.params.toList.all fun u=>!Tryz.prog.wantsStandIn u)=true:=by kernel_rfl
 have hm:t∈Tryz.f4.params.toList:=by
  rw [← Array.getElem?_toList] at ht
  exact List.mem_of_getElem? ht
 have:=List.all_eq_true.1 hall t hm
 exact (show Tryz.prog.wantsStandIn t=false by simpa using this)
theorem FracTexts_holds:Rows.FracTextsUptoCardSaid :=
 Claim7.holds_tied_plain_at .later [] _ _ _ _ FracTexts_over (fun _ h=>by cases h) (by kernel_rfl) (fun _ h=>by cases h) fracTextsUpto_row_tie rfl ⟨rfl,rfl⟩ (by kernel_rfl) rfl FracTexts_plain (by kernel_rfl)
#print axioms FracTexts_holds
end Go.Proofs.YthkpghhoffihmaaGreatDoor
