/- MtE, SyM, SyN, G2, MtH, GsE, MtI, MtJ. -/
import Derived.Test.YtpccljaooghafaaGreatQk12
set_option linter.unnecessarySimpa false
set_option linter.unusedVariables false
set_option linter.unusedSimpArgs false
section
namespace Go.Proofs.YtpccljaooghafaaGreat.Y
open Go Go.RowKit
set_option maxRecDepth 100000
theorem cspec0 {P:Program} {f:FuncId} {fn:Func} {args:List SV} {cs:List Lf} {t:TypeId} {res:SV} (evs:List (Ev P)) (Ns:List (Nat × Nat)) (m:Nat) (hf:P.funcs[f]?=some fn) (hm:P.follows .mixedOrders=true)
  (h:∀ β,(allS P fn args [.box cs t] evs Ns m res [] β).map Prod.fst=(allS P fn args [.box cs t] evs Ns m res [] β).map Prod.snd)
  (hB:(args.all (SV.of fun k=>Nat.blt k 1)&&[Ob.box cs t].all fun x=>x.of (fun k=>Nat.blt k 1)&&x.own)=true) (hr:res.of (fun _=>false)=true) (β:Env) (w:World) (hh:(Ob.box cs t).holds β w (β 0)) :
  Calls P f (args.map (SV.den β)).toArray w fun e w'=>∃ xs:List Pl,(∀ x∈xs,∀ c,x.F c→w.heap.size≤c)∧e=.returned (res.den (extE β 1 xs))∧newHold w' [] xs∧Below w.heap.size w w':=by
 rw [Bool.and_eq_true] at hB
 refine (sx (P:=P) args [.box cs t] evs Ns m res [] hf hm (fun β=>ok_of_maps (h β)) hB.1 hB.2 β w (fun k o ho=>?_)).mono ?_
 · cases k with
   | zero=>simp only [List.getElem?_cons_zero] at ho; obtain rfl:=Option.some.inj ho; exact hh
   | succ k=>simp at ho
 · rintro e w' ⟨β',q,obj,_,rfl,_,_,_,g⟩
   exact ⟨[],(fun _ h=>by cases h),by rw [SV.den_congr (q:=fun _=>false) (fun k hk=>by cases hk) res hr],trivial,g.bel⟩
abbrev fvV (f:Nat):SV:=.one (.c (.f (.func f) [] []))
abbrev CIT:TypeId:=112
abbrev rwV:SV:=.one (.c (.b (.y 0 8 2)))
abbrev tldA (f:Nat):List SV:=[fvV f,.one (.c (.b (.s 0 0 2 2)))]
theorem MayC.szh {r:RQ} (h:MayC r):RSz KH r:=(show RSz 1024 r from ⟨h.fit.1.sz,h.fit.2.1.gsz,h.fit.2.2.sz⟩).mono (by decide)
theorem MayC.ff {r:RQ} (h:MayC r):fpr r r≠0:=by
 intro e
 have:=of_decide_eq_false h.pow
 rw [← rpow_fpr,e] at this
 exact this (by decide)
section
variable {f g:RQ} (hf:MayC f) (hg:MayC g)
noncomputable def rd2E (f g:RQ):List (Ev Tryz.prog):=[dIdxF (fr2 f g),dForm (fr2 f g)]
include hf hg in
theorem ffgg:fpr f f*fpr g g≠0:=fun e=>(Rat.mul_eq_zero.1 e).elim hf.ff hg.ff
noncomputable def sSq1:Spec Tryz.prog :=
 Spec.auto Tryz.call287 [rwV] [rowT FRT (fr2 f g)] (.tup [.c (.b (.z 1 0)),nI' 0]) [ratT (fsq f g)] (rd2E f g++rd2E f g++[(sMtSq (hf.szh.mono (by decide)) (hg.szh.mono (by decide)) (ffgg hf hg)).e]) [(1,9)] 400 Tryz.func287 hmA (by kernel_rfl) (fun β=>by kernel_rfl)
noncomputable def sMTldS:CSpec Tryz.prog :=
 ⟨286,Tryz.call286,tldA 287,oc2L f g,CIT,.tup [.a (fA (fsq f g)),nI' (ansK (fsq f g))],[],fun β w hh =>
  cspec0 [(sOpen2 hf hg).e,(sSq1 hf hg).e,(sFrac ((fsq_sz hf.szh hg.szh (ffgg hf hg)).mono (by decide))).e] [] 800 Tryz.func286 hmA (fun β=>by kernel_rfl) (by kernel_rfl) (by kernel_rfl) β w hh,by kernel_rfl⟩
noncomputable def sMSq:Spec Tryz.prog :=
 Spec.auto Tryz.call120 [frS f,frS g] [] (.tup [.a (fA (fsq f g)),nI' (ansK (fsq f g))]) [] [(sMTldS hf hg).e] [] 400 Tryz.func120 hmA (by kernel_rfl) (fun β=>by kernel_rfl)
noncomputable def liE (hf:MayC f) (hg:MayC g) {c:Int} (hc:cmpQ (fsq f g) one1=c):List (Ev Tryz.prog) :=
 [(sOpen2 hf hg).e]++rd2E f g++rd2E f g++[(sMtSq (hf.szh.mono (by decide)) (hg.szh.mono (by decide)) (ffgg hf hg)).e,(sMtNum 1).e,nCmp ((fsq_sz hf.szh hg.szh (ffgg hf hg)).mono (by decide)) (one_sz.mono (by decide)) hc]
theorem fsq_self {f:RQ} (h:fpr f f≠0):fsq f f=one1:=by
 have h1:one1=1:=of_decide_eq_true (by kernel_rfl:decide (one1=1)=true)
 rw [h1,fsq,Rat.div_def,Rat.mul_inv_cancel _ (fun e=>(Rat.mul_eq_zero.1 e).elim h h)]
noncomputable def sMLies {s:Bool} (hs:eqRone f g=s) {c:Int} (hc:cmpQ (fsq f g) one1=c):Spec Tryz.prog :=
 ⟨121,Tryz.call121,[frS f,frS g],[],.tup [nI' (lieK s c),nI' 0],[],fun β w hh=>by
  have hk:s=true→c=0:=fun e=>by
   rw [e] at hs
   have hfg:=eqRone_iff.1 hs
   subst hfg
   rw [← hc,fsq_self hf.ff]
   exact cmp_self _
  rcases cmpQ_cases (fsq f g) one1 with h | h | h<;>rw [hc] at h
  · cases s with
    | true=>rw [hk rfl] at h; cases h
    | false=>subst h; exact spec_auto (evs:=liE hf hg hc) (Ns:=[(5,10)]) (m:=800) Tryz.func121 hmA (fun β=>by kernel_rfl) (by kernel_rfl) β w hh
  · subst h
    cases s<;>exact spec_auto (evs:=liE hf hg hc++[eqEvR f g hs]) (Ns:=[(5,10)]) (m:=800) Tryz.func121 hmA (fun β=>by kernel_rfl) (by kernel_rfl) β w hh
  · cases s with
    | true=>rw [hk rfl] at h; cases h
    | false=>subst h; exact spec_auto (evs:=liE hf hg hc) (Ns:=[(5,10)]) (m:=800) Tryz.func121 hmA (fun β=>by kernel_rfl) (by kernel_rfl) β w hh,by kernel_rfl⟩
def sgR (d:Nat) {x:Rat} {b:Bool} (h:decide (x=0)=b):List (Ev Tryz.prog):=[nSign (x:=x) rfl,.eqv d (.bool (x.num.sign==0)) (.bool b) (sign_lit h)]
theorem sgn_gt0 {x:Rat}:Value.bool (decide (0<x.num.sign))=.bool (!decide (x.num.sign≤0)):=by
 congr 1
 rw [Bool.eq_iff_iff]
 simp only [decide_eq_true_iff,Bool.not_eq_true',decide_eq_false_iff_not]
 omega
noncomputable def sAxBoth (h1:decide (f.a=0)=true) (h2:decide (g.a=0)=true):Spec Tryz.prog :=
 Spec.auto Tryz.call250 [rgV 0,rgV 4] (rgT f++rgT g) (.tup [nil4V,.c (.b (.v (.bool false)))]) [] (sgR 11 h1++sgR 16 h2) [(7,6),(8,7)] 800 Tryz.func250 hmA (by kernel_rfl) (fun β=>by kernel_rfl)
noncomputable def sAxOne (h1:decide (f.a=0)=true) (h2:decide (g.a=0)=false):Spec Tryz.prog :=
 Spec.auto Tryz.call250 [rgV 0,rgV 4] (rgT f++rgT g) (.tup [rgC 0,.c (.b (.v (.bool true)))]) [] (sgR 11 h1++sgR 16 h2++sgR 23 h1) [(7,6),(8,7)] 800 Tryz.func250 hmA (by kernel_rfl) (fun β=>by kernel_rfl)
noncomputable def sAxTwo (h1:decide (f.a=0)=false) (h2:decide (g.a=0)=true):Spec Tryz.prog :=
 Spec.auto Tryz.call250 [rgV 0,rgV 4] (rgT f++rgT g) (.tup [rgC 4,.c (.b (.v (.bool true)))]) [] (sgR 11 h1++sgR 23 h1++sgR 29 h2) [(7,6),(8,7)] 800 Tryz.func250 hmA (by kernel_rfl) (fun β=>by kernel_rfl)
include hf hg in
theorem axq_szK:RSz 5000 (axQ f g):=(pls_sz hf.szh hg.szh one_sz mone8).mono (by decide)
noncomputable def sAxNone (h1:decide (f.a=0)=false) (h2:decide (g.a=0)=false) {b:Bool} (hb:decide ((fpr (axQ f g) (axQ f g)).num.sign≤0)=b):Spec Tryz.prog :=
 Spec.auto Tryz.call250 [rgV 0,rgV 4] (rgT f++rgT g) (.tup [rgC 8,.c (.b (.v (.bool (!b))))]) (rgT (axQ f g))
  (sgR 11 h1++sgR 23 h1++sgR 29 h2++[(sMtNum 1).e,(sMtNum (-1)).e,(sMtPlus (hf.szh.mono (by decide)) (hg.szh.mono (by decide)) (one_sz.mono (by decide)) (mone8.mono (by decide))).e,(sMtProd ((axq_szK hf hg).mono (by decide)) ((axq_szK hf hg).mono (by decide))).e,
   nSign (x:=fpr (axQ f g) (axQ f g)) rfl,.eqv 41 (.bool (decide (0<(fpr (axQ f g) (axQ f g)).num.sign))) (.bool (!b)) (by rw [sgn_gt0,hb])]) [(7,6),(8,11006007)] 1200 Tryz.func250 hmA (by kernel_rfl) (fun β=>by kernel_rfl)
noncomputable def sAx1Both (h1:decide (f.a=0)=true) (h2:decide (g.a=0)=true):Spec Tryz.prog :=
 Spec.auto Tryz.call355 [rwV] [rowT FRT (fr2 f g)] (.tup [nil4V,.c (.b (.v (.bool false)))]) [] (rd2E f g++rd2E f g++[(sAxBoth h1 h2).e]) [(1,9)] 400 Tryz.func355 hmA (by kernel_rfl) (fun β=>by kernel_rfl)
noncomputable def sAx1One (h1:decide (f.a=0)=true) (h2:decide (g.a=0)=false):Spec Tryz.prog :=
 Spec.auto Tryz.call355 [rwV] [rowT FRT (fr2 f g)] (.tup [rgC 1,.c (.b (.v (.bool true)))]) (rgT f) (rd2E f g++rd2E f g++[(sAxOne h1 h2).e]) [(1,9)] 400 Tryz.func355 hmA (by kernel_rfl) (fun β=>by kernel_rfl)
noncomputable def sAx1Two (h1:decide (f.a=0)=false) (h2:decide (g.a=0)=true):Spec Tryz.prog :=
 Spec.auto Tryz.call355 [rwV] [rowT FRT (fr2 f g)] (.tup [rgC 1,.c (.b (.v (.bool true)))]) (rgT g) (rd2E f g++rd2E f g++[(sAxTwo h1 h2).e]) [(1,9)] 400 Tryz.func355 hmA (by kernel_rfl) (fun β=>by kernel_rfl)
noncomputable def sAx1None (h1:decide (f.a=0)=false) (h2:decide (g.a=0)=false) {b:Bool} (hb:decide ((fpr (axQ f g) (axQ f g)).num.sign≤0)=b):Spec Tryz.prog :=
 Spec.auto Tryz.call355 [rwV] [rowT FRT (fr2 f g)] (.tup [rgC 1,.c (.b (.v (.bool (!b))))]) (rgT (axQ f g)) (rd2E f g++rd2E f g++[(sAxNone hf hg h1 h2 hb).e]) [(1,9)] 400 Tryz.func355 hmA (by kernel_rfl) (fun β=>by kernel_rfl)
noncomputable def axP (f g:RQ):AxK→SV
 | .both=>.tup [.a c0C,nI' 7]
 | .one=>mxA f
 | .two=>mxA g
 | .none=>mxA (axQ f g)
noncomputable def sMadeAx {k:AxK} (hk:axAt f g k):CSpec Tryz.prog :=
 ⟨265,Tryz.call265,tldA 355,oc2L f g,CIT,axP f g k,[],fun β w hh=>by
  cases k with
  | both=>exact cspec0 [(sOpen2 hf hg).e,(sAx1Both hk.1 hk.2).e] [] 800 Tryz.func265 hmA (fun β=>by kernel_rfl) (by kernel_rfl) (by kernel_rfl) β w hh
  | one=>exact cspec0 [(sOpen2 hf hg).e,(sAx1One hk.1 hk.2).e,(sMtCircle (hf.szh.mono (by decide))).e] [] 800 Tryz.func265 hmA (fun β=>by kernel_rfl) (by kernel_rfl) (by kernel_rfl) β w hh
  | two=>exact cspec0 [(sOpen2 hf hg).e,(sAx1Two hk.1 hk.2).e,(sMtCircle (hg.szh.mono (by decide))).e] [] 800 Tryz.func265 hmA (fun β=>by kernel_rfl) (by kernel_rfl) (by kernel_rfl) β w hh
  | none =>
   have hr:decide ((fpr (axQ f g) (axQ f g)).num.sign≤0)=wtB (axQ f g):=by rw [rpow_fpr]; rfl
   cases hp:wtB (axQ f g) with
   | true =>
    show Calls _ _ _ _ fun e w'=>∃ xs:List Pl,_∧e=.returned ((mxA (axQ f g)).den (extE β 1 xs))∧_
    rw [mxA,(mx_no hp).1,(mx_no hp).2]
    exact cspec0 [(sOpen2 hf hg).e,(sAx1None hf hg hk.1 hk.2 (hr.trans hp)).e] [] 800 Tryz.func265 hmA (fun β=>by kernel_rfl) (by kernel_rfl) (by kernel_rfl) β w hh
   | false=>exact cspec0 [(sOpen2 hf hg).e,(sAx1None hf hg hk.1 hk.2 (hr.trans hp)).e,(sMtCircle ((axq_szK hf hg).mono (by decide))).e] [] 800 Tryz.func265 hmA (fun β=>by kernel_rfl) (by kernel_rfl) (by kernel_rfl) β w hh,by cases k<;>kernel_rfl⟩
noncomputable def sMAxis {k:AxK} (hk:axAt f g k):Spec Tryz.prog :=
 ⟨246,Tryz.call246,[frS f,frS g],[],axP f g k,[],fun β w hh=>by
  cases k<;>exact spec_auto (evs:=[(sMadeAx hf hg hk).e]) (Ns:=[]) (m:=400) Tryz.func246 hmA (fun β=>by kernel_rfl) (by kernel_rfl) β w hh,by cases k<;>kernel_rfl⟩
abbrev ovB (f g:RQ):Rat:=fpr f g/fpr f f
abbrev ovP (f g:RQ):RQ:=pls g f one1 (ovB f g*Rat.divInt (-2) 1)
theorem ovP_eq (f g:RQ):ovP f g=ovQ f g:=by
 unfold ovP ovQ ovB ovb
 rw [Rat.div_def,Rat.div_def]
 congr 1
 grind
include hf hg in
theorem ovB_sz:Sz 20000 (ovB f g):=(div_sz (fpr_sz hf.szh hg.szh) (fpr_sz hf.szh hf.szh) hf.ff).mono (by decide)
include hf hg in
theorem ovP_sz:RSz 30000 (ovP f g):=(pls_sz hg.szh hf.szh one_szH ((ovB_sz hf hg).mul two_sz)).mono (by decide)
noncomputable def sOv1:Spec Tryz.prog :=
 Spec.auto Tryz.call266 [rwV] [rowT FRT (fr2 f g)] (.tup [rgC 1,.c (.b (.v (.bool true)))]) (rgT (ovP f g))
  (rd2E f g++rd2E f g++[(sMtProd (hf.szh.mono (by decide)) (hg.szh.mono (by decide))).e]++rd2E f g++rd2E f g++[(sMtProd (hf.szh.mono (by decide)) (hf.szh.mono (by decide))).e,(sMtQuo ((fpr_sz hf.szh hg.szh).mono (by decide)) ((fpr_sz hf.szh hf.szh).mono (by decide)) hf.ff).e] ++
   rd2E f g++rd2E f g++[(sMtNum 1).e,(sMtNum (-2)).e,(sMtMul ((ovB_sz hf hg).mono (by decide)) (two_sz.mono (by decide))).e,(sMtPlus (hg.szh.mono (by decide)) (hf.szh.mono (by decide)) (one_sz.mono (by decide)) (((ovB_sz hf hg).mul two_sz).mono (by decide))).e])
  [(1,16),(2,11)] 1200 Tryz.func266 hmA (by kernel_rfl) (fun β=>by kernel_rfl)
noncomputable def sMadeOv:CSpec Tryz.prog :=
 ⟨265,Tryz.call265,tldA 266,oc2L f g,CIT,mxA (ovP f g),[],fun β w hh =>
  cspec0 [(sOpen2 hf hg).e,(sOv1 hf hg).e,(sMtCircle ((ovP_sz hf hg).mono (by decide))).e] [] 800 Tryz.func265 hmA (fun β=>by kernel_rfl) (by kernel_rfl) (by kernel_rfl) β w hh,by kernel_rfl⟩
noncomputable def sMOver:Spec Tryz.prog :=
 (Spec.auto Tryz.call113 [frS f,frS g] [] (mxA (ovP f g)) [] [(sMadeOv hf hg).e] [] 400 Tryz.func113 hmA (by kernel_rfl) (fun β=>by kernel_rfl)).conv (mxA (ovQ f g)) (congrArg mxA (ovP_eq f g))
variable {s t:Rat} (hs:Fit s) (ht:Fit t)
abbrev PRT:TypeId:=149
end
def fullM (P:Program) (mo:Nat) (fn:Func) (args:List SV) (obs:List Ob) (evs:List (Ev P)) (Ns:List (Nat × Nat)) (m:Nat) (c:Code):Option (Cf P) :=
 runC P mo (sizeS fn args) Ns m (some c) [] ⟨startS args 0,fun k=>Nat.blt k obs.length,obs,evs,[]⟩
def allM (P:Program) (mo:Nat) (fn:Func) (args:List SV) (obs:List Ob) (evs:List (Ev P)) (Ns:List (Nat × Nat)) (m:Nat) (res:SV) (outs:List (Nat × Ob)) (β:Env):Eqs :=
 match fn.body with
 | some c=>match fullM P mo fn args obs evs Ns m c with
  | some f=>fin1 P fn mo (sizeS fn args) res outs f β
  | none=>Eqs.no
 | none=>Eqs.no
def bdM (w:World) (mo n:Nat) (β:Env):Bd:=⟨w.heap.size,fun c=>∃ i,mo≤i∧i<n∧c=(β i).b,n⟩
theorem sxM {P:Program} {f:FuncId} {fn:Func} (mo:Nat) (args:List SV) (obs:List Ob) (evs:List (Ev P)) (Ns:List (Nat × Nat)) (m:Nat) (res:SV) (outs:List (Nat × Ob)) (hf:P.funcs[f]?=some fn) (hm:P.follows .mixedOrders=true)
  (hok:∀ β,Eqs.ok (allM P mo fn args obs evs Ns m res outs β)) (hmo:mo≤obs.length)
  (hargs:args.all (SV.of fun k=>Nat.blt k obs.length)=true) (hobs:obs.all (fun x=>x.of (fun k=>Nat.blt k obs.length)&&x.own)=true)
  (hlay:∀ k,mo≤k→k<obs.length→isLayB obs[k]?=true) (houts:∀ k,mo≤k→k<obs.length→∃ x p,(k,x)∈outs∧x.layOf=some p)
  (β:Env) (w:World) (hh:∀ (k:Nat) (o:Ob),obs[k]?=some o→o.holds β w (β k))
  (hsep:∀ k j,mo≤k→k<obs.length→j<obs.length→j≠k→¬ (β j).F (β k).b) :
  Calls P f (args.map (SV.den β)).toArray w fun e w'=>∃ (β':Env) (q:Nat→Bool),(∀ k,k<obs.length→β' k=β k)∧e=.returned (res.den β')∧res.of q=true∧(∀ p∈outs,p.2.isTh=true→∀ c,(β' p.1).F c→(w.heap.size≤c∧∀ i,mo≤i→i<obs.length→c≠(β i).b)∨∃ i,i<mo∧(β i).F c)∧holdsAll β' w' outs∧Keep (bdM w mo obs.length β) w w':=by
 have hnal:∀ (k r:Nat) (D:Thing),obs[k]?≠some (.al r D):=fun k r D ho=>by
  have:=List.all_eq_true.1 hobs _ (List.mem_of_getElem? ho)
  simp [Ob.own] at this
 have huq:UniqAl obs:=fun k j i D _ h1 _=>absurd h1 (hnal k i D)
 have hlt:∀ k,k<obs.length→∀ c,(β k).F c→c<w.heap.size:=fun k hk c hc=>by
  have h:=hh k _ (List.getElem?_eq_getElem hk)
  cases hx:obs[k] with
  | box cs t=>rw [hx] at h; rw [(h.1.1 c).1 hc]; exact heap_lt h.2
  | th D=>rw [hx] at h; exact D.st.lt _ _ h c hc
  | al r D=>rw [hx] at h; exact D.st.lt _ _ h c hc
  | pl n=>rw [hx] at h; rw [(h.1.1 c).1 hc]; exact h.2.lt
  | row cs t n sz=>rw [hx] at h; rw [(h.1.1 c).1 hc]; exact heap_lt h.2.choose_spec.1
  | ow D t=>rw [hx] at h; exact D.st.lt _ _ h.2 c hc
  | dead =>
   have:=List.all_eq_true.1 hobs _ (List.mem_of_getElem? (List.getElem?_eq_getElem hk))
   rw [hx] at this
   simp [Ob.own] at this
 have hone:∀ k,mo≤k→k<obs.length→(β k).one:=fun k h1 h2=>by
  have hl:=hlay k h1 h2
  obtain ⟨y,p,e1,e2⟩:=isLayB_iff hl
  have h3:=hh k y e1
  rw [e1] at hl
  cases y with
  | box cs t=>exact h3.1
  | row cs t n sz=>exact h3.1
  | _=>cases hl
 have hnpl:∀ k N,mo≤k→k<obs.length→obs[k]?≠some (.pl N):=fun k N h1 h2 e=>by
  obtain ⟨y,p,e1,e2⟩:=isLayB_iff (hlay k h1 h2)
  rw [e] at e1
  rw [← Option.some.inj e1] at e2
  cases e2
 cases hb:fn.body with
 | none=>have:=hok β; unfold allM at this; rw [hb] at this; exact (Eqs.no_ok this).elim
 | some c =>
  have h1:∀ β,Eqs.ok (match fullM P mo fn args obs evs Ns m c with | some f=>fin1 P fn mo (sizeS fn args) res outs f β | none=>Eqs.no):=fun β=>by
   have:=hok β
   unfold allM at this
   rw [hb] at this
   exact this
  cases hr:fullM P mo fn args obs evs Ns m c with
  | none=>have:=h1 β; rw [hr] at this; exact (Eqs.no_ok this).elim
  | some g =>
   have h2:∀ β,Eqs.ok (fin1 P fn mo (sizeS fn args) res outs g β):=fun β=>by have:=h1 β; rw [hr] at this; exact this
   unfold fullM at hr
   obtain ⟨_,r2,r3⟩:=runC_ok hm _ _ _ _ _ hr ⟨fun k=>by dsimp only; rw [Nat.blt_eq],huq⟩
   have fin:∃ r:R1 Value,run1 P mo false (results fn (tmpsS idE g.sl (sizeS fn args))) g.q g.ob []=some r∧res.of g.q=true∧r.ob.length=g.ob.length ∧
     ∀ β,Eqs.ok (chk P β (results fn (tmpsS β g.sl (sizeS fn args))) r.tr.reverse (fun u=>[(.v u,.v (res.den β))])++(needEqs g.q g.ob outs++eqsOf β g.cs)):=by
    cases hx:run1 P mo false (results fn (tmpsS idE g.sl (sizeS fn args))) g.q g.ob [] with
    | none=>have:=h2 β; unfold fin1 at this; rw [hx] at this; exact (Eqs.no_ok this).elim
    | some r =>
     obtain ⟨ra,rq,rob,rtr⟩:=r
     cases hc:(res.of g.q&&Nat.beq rob.length g.ob.length&&Nat.beq g.ev.length 0) with
     | false=>have:=h2 β; unfold fin1 at this; rw [hx] at this; dsimp only at this; rw [hc] at this; exact (Eqs.no_ok this).elim
     | true =>
      have h3:=hc
      simp only [Bool.and_eq_true,Nat.beq_eq] at hc
      refine ⟨_,rfl,hc.1.1,hc.1.2,fun β=>?_⟩
      have:=h2 β
      unfold fin1 at this
      rw [hx] at this
      dsimp only at this
      rw [h3] at this
      exact this
   obtain ⟨r,f1,f2,f3,f4⟩:=fin
   have hgood:g.good:=fun β x hx=>eqsOf_ok (fun p hp=>f4 β p (List.mem_append.2 (.inr (List.mem_append.2 (.inr hp))))) x hx
   refine calls_of_wp hf hb (r3 hgood (B0:=bdM w mo obs.length β) (w0:=w) (β:=β) ⟨⟨Keep.refl _ _,Nat.le_refl _,fun k o hk ho=>⟨hh k o ho,(Bool.and_eq_true _ _▸List.all_eq_true.1 hobs o (List.mem_of_getElem? ho)).1⟩,fun k hk=>hlt k (by simpa [Nat.blt_eq] using hk),
    fun k j hk hj hne hm _ _=>hsep k j hm (by simpa [Nat.blt_eq] using hk) (by simpa [Nat.blt_eq] using hj) hne,fun k _ hk hm _ _=>.inr ⟨k,hm,by simpa [Nat.blt_eq] using hk,rfl⟩,
    fun k hk hm c hc=>.inl (.inr ⟨k,hm,by simpa [Nat.blt_eq] using hk,((hone k hm (by simpa [Nat.blt_eq] using hk)).1 c).1 hc⟩),fun i hi=>by rw [Nat.blt_eq]; omega,fun k r D _ ho=>?_,fun k r D _ ho=>absurd ho (hnal k r D),
    fun k i _ hi _ hm _ ⟨N,hp⟩=>absurd hp (hnpl i N hm (by simpa [Nat.blt_eq] using hi))⟩,fun k=>by dsimp only; rw [Nat.blt_eq],⟨?_,fun t=>?_⟩,fun t=>?_,⟨hmo,Nat.le_refl _⟩,rfl,huq⟩ _ fun β' a' w' e s=>?_)
   · exact absurd ho (hnal k r D)
   · simp [sizeS]
   · rw [look_start,if_pos (Nat.zero_le _),Nat.sub_zero]
     simp only [Array.getD_eq_getD_getElem?,Array.getElem?_append,List.size_toArray,List.length_map,List.getElem?_toArray,List.getElem?_map]
     split
     · rename_i hlt2
       rw [List.getElem?_eq_getElem hlt2]
       rfl
     · rename_i hge
       rw [List.getElem?_eq_none (by omega)]
       simp [Array.getElem?_replicate]
       split<;>rfl
   · dsimp only
     rw [look_start,if_pos (Nat.zero_le _),Nat.sub_zero]
     cases hx:args[t]? with
     | none=>rfl
     | some x=>exact List.all_eq_true.1 hargs x (List.mem_of_getElem? hx)
   · have e:∀ k,k<obs.length→β' k=β k:=e
     obtain ⟨h5,_,_,tr,h8,h9⟩:=run1_ok _ _ _ _ _ f1 (fun k hk=>(s.q k).1 hk)
     obtain ⟨k1,obj',k2,k3,k4⟩:=h9 _ _ _ _ _ _ s.good (fun k hk=>⟨hk,rfl⟩) (fun k a b=>by omega) s.m0.1
     have h6:=f4 β'
     rw [h8,List.append_nil,List.reverse_reverse] at h6
     have h7:Eqs.ok (chk P β' (results fn (tmpsS β' g.sl (sizeS fn args))) tr (fun u=>[(.v u,.v (res.den β'))])):=fun p hp=>h6 p (List.mem_append.2 (.inl hp))
     obtain ⟨v,hv,hv2⟩:=chk_run _ _ _ h7 k1
     obtain ⟨e1,_⟩:=Eqs.cons_ok hv2
     injection e1 with e1
     subst e1
     rw [f3,rangeQ_self] at k4
     have hend:trEnd β' w' tr=w':=by
      obtain ⟨tr2,x1,x2⟩:=run1_still _ _ _ _ _ f1 (fun k hk=>(s.q k).1 hk) f3
      rw [h8,List.append_nil,List.append_nil] at x1
      rw [List.reverse_inj.1 x1]
      exact x2 β' w'
     rw [hend] at hv k4
     rw [← tmps_eq s.sl] at hv
     have hneed:Eqs.ok (needEqs g.q g.ob outs):=fun p hp=>f4 β' p (List.mem_append.2 (.inr (List.mem_append.2 (.inl hp))))
     have hout:∀ p∈outs,p.2.isTh=true→∀ c,(β' p.1).F c→(w.heap.size≤c∧∀ i,mo≤i→i<obs.length→c≠(β i).b)∨∃ i,i<mo∧(β i).F c:=fun p hp hth c hc=>by
      have hpq:=needs_q _ hneed p hp
      obtain ⟨z,hz,hzp⟩:=needs_get hneed p hp
      have hzt:z.isTh=true:=Ob.plain_th (y:=z) (x:=p.2) (by rw [hzp]; exact hth)
      have hno:∀ i,mo≤i→i<obs.length→p.1≠i∧¬ (β' p.1).F (β i).b:=fun i i1 i2=>by
       obtain ⟨x,pl,hx,hxl⟩:=houts i i1 i2
       obtain ⟨y,hy,hyp⟩:=needs_get hneed _ hx
       have hyl:y.layOf=some pl:=by
        cases y with
        | th D=>cases x<;>first | (cases hxl; done) | (cases hyp; done)
        | al r D=>cases x<;>first | (cases hxl; done) | (cases hyp; done)
        | box cs t=>have h:Ob.box cs t=x:=hyp; rw [h]; exact hxl
        | pl n=>have h:Ob.pl n=x:=hyp; rw [h]; exact hxl
        | row cs t n sz=>have h:Ob.row cs t n sz=x:=hyp; rw [h]; exact hxl
        | ow D t=>have h:Ob.ow D t=x:=hyp; rw [h]; exact hxl
        | dead=>have h:Ob.dead=x:=hyp; rw [h]; exact hxl
       have hne:p.1≠i:=fun e2=>by
        rw [e2] at hz
        have hy':g.ob[i]?=some y:=hy
        rw [hz] at hy'
        rw [Option.some.inj hy'] at hzt
        cases y<;>first | (cases hyl; done) | (cases hzt; done)
       refine ⟨hne,?_⟩
       rw [← e i i2]
       exact s.good.ne i p.1 (needs_q _ hneed _ hx) hpq hne i1 (.inl ⟨y,hy,pl,hyl⟩) (by
        show g.ob[p.1]?≠_
        rw [hz]
        intro e2
        rw [Option.some.inj e2] at hzt
        cases hzt)
      by_cases h0:mo≤p.1
      · rcases s.good.fr p.1 hpq h0 c hc with (h10 | ⟨i,i1,i2,i3⟩) | ⟨i,i1,i2⟩
        · exact .inl ⟨h10,fun i i1 i2 e2=>(hno i i1 i2).2 (e2▸hc)⟩
        · exact absurd (i3▸hc) (hno i i1 i2).2
        · exact .inr ⟨i,i1,by rw [← e i (by omega)]; exact i2⟩
      · exact .inr ⟨p.1,by omega,by rw [← e p.1 (by omega)]; exact hc⟩
     have hres:bodyPost P fn (fun e w'=>∃ (β':Env) (q:Nat→Bool),(∀ k,k<obs.length→β' k=β k)∧e=.returned (res.den β')∧res.of q=true∧(∀ p∈outs,p.2.isTh=true→∀ c,(β' p.1).F c→(w.heap.size≤c∧∀ i,mo≤i→i<obs.length→c≠(β i).b)∨∃ i,i<mo∧(β i).F c)∧holdsAll β' w' outs∧Keep (bdM w mo obs.length β) w w') .normal a' w' :=
      ⟨s.defers,_,hv,β',g.q,e,rfl,f2,hout,needs_hold s.good (fun k hk=>⟨hk,rfl⟩) _ hneed,k4.bel⟩
     exact ⟨hres,hres⟩
def Ob.renL (ρ:Nat→Nat):Ob→Ob
 | .box cs t=>.box (cs.map (Lf.ren ρ)) t
 | .row cs t n sz=>.row (cs.map (Lf.ren ρ)) t n sz
 | x=>x
theorem Ob.renL_holds {β:Env} {w:World} {g:Pl} {ρ:Nat→Nat}:∀ {o:Ob},(o.renL ρ).holds β w g↔o.holds (fun k=>β (ρ k)) w g
 | .box cs t=>by
  have h:(cs.map (Lf.ren ρ)).map (Lf.den β)=cs.map (Lf.den fun k=>β (ρ k)):=by
   rw [List.map_map]
   exact List.map_congr_left fun x _=>Lf.den_ren β ρ x
  show (g.one∧w.heap[g.b]?=some (.cells ((cs.map (Lf.ren ρ)).map (Lf.den β)).toArray t (0,0)))↔_
  rw [h]
  exact Iff.rfl
 | .row cs t n sz=>by
  have h:(cs.map (Lf.ren ρ)).map (Lf.den β)=cs.map (Lf.den fun k=>β (ρ k)):=by
   rw [List.map_map]
   exact List.map_congr_left fun x _=>Lf.den_ren β ρ x
  show (g.one∧∃ cur,w.heap[g.b]?=some (.cells cur t (0,0))∧(cs.map (Lf.ren ρ)).length=n*sz∧n≤g.c 0∧g.c 0≤maxLen∧cur.size=g.c 0*sz∧cur.toList.take (n*sz)=(cs.map (Lf.ren ρ)).map (Lf.den β))↔_
  rw [h,List.length_map]
  exact Iff.rfl
 | .th _=>Iff.rfl
 | .al _ _=>Iff.rfl
 | .pl _=>Iff.rfl
 | .ow _ _=>Iff.rfl
 | .dead=>Iff.rfl
structure MSpec (P:Program) where
 f:FuncId
 en:Enters P f
 args:List SV
 obs:List Thing
 a:Ob
 b:Ob
 res:SV
 news:List Thing
 ok:∀ β w,(∀ (k:Nat) (t:Thing),obs[k]?=some t→t.D w (β k))→a.holds β w (β obs.length)→Calls P f (args.map (SV.den β)).toArray w fun e w'=>∃ xs:List Pl,freshS β w obs.length xs∧e=.returned (res.den (extE β (obs.length+1) xs))∧newHold w' news xs∧b.holds (extE β (obs.length+1) xs) w' (β obs.length)∧TouchL w w' [(β obs.length).b]
 closed:(args.all (SV.of fun k=>Nat.blt k (obs.length+1))&&(a.of (fun k=>Nat.blt k (obs.length+1))&&(b.of (fun k=>Nat.blt k (obs.length+1+news.length))&&res.of fun k=>Nat.blt k (obs.length+1+news.length))))=true
def atM (σ:List Nat) (m n k:Nat):Nat:=lit (bif Nat.blt k (m+1) then σ.getD k 0 else n+(k-(m+1))) fun j=>j
def needsM (σ:List Nat):List Thing→Nat→List (Nat × Ob)
 | [],_=>[]
 | t::r,k=>lit (σ.getD k 0) fun j=>(j,t.ob)::needsM σ r (k+1)
theorem needsM_at {σ:List Nat}:∀ {l:List Thing} {i k:Nat} {t:Thing},l[k]?=some t→(σ.getD (i+k) 0,t.ob)∈needsM σ l i
 | x::r,i,0,t,h=>by
  simp only [List.getElem?_cons_zero] at h
  obtain rfl:=Option.some.inj h
  unfold needsM
  rw [lit_eq]
  exact List.mem_cons_self ..
 | x::r,i,k+1,t,h=>by
  have:=needsM_at (σ:=σ) (l:=r) (i:=i+1) (k:=k) (t:=t) (by simpa using h)
  unfold needsM
  rw [lit_eq,show i+(k+1)=i+1+k by omega]
  exact List.mem_cons_of_mem _ this
theorem Ob.holds_cgL {q:Nat→Bool} {β β':Env} {w:World} {g:Pl} (hq:∀ k,q k=true→β k=β' k) {o:Ob} (h:o.of q=true) (k:o.holds β w g):o.holds β' w g:=Ob.holds_congr hq o h k
def MSpec.ev {P:Program} (S:MSpec P) (σ:List Nat) (n:Nat) (hσ:(Nat.ble (S.obs.length+1) σ.length&&σ.all fun k=>Nat.blt k n)=true):Ev P :=
 .mut S.f S.en (fun β=>(S.args.map (SV.den fun k=>β (atM σ S.obs.length n k))).toArray) (needsM σ S.obs 0) [⟨lit (σ.getD S.obs.length 0) fun j=>j,S.a.renL (atM σ S.obs.length n),S.b.renL (atM σ S.obs.length n)⟩] n (S.res.ren (atM σ S.obs.length n)) S.news fun β w h hm=>by
  have hc:=S.closed
  simp only [Bool.and_eq_true] at hc
  obtain ⟨hc1,hc2,hc3,hc4⟩:=hc
  have hat:∀ k,k<S.obs.length+1→atM σ S.obs.length n k=σ.getD k 0:=fun k hk=>by
   unfold atM
   rw [lit_eq,show Nat.blt k (S.obs.length+1)=true by rw [Nat.blt_eq]; exact hk,cond_true]
  have hat2:∀ k,¬ k<S.obs.length+1→atM σ S.obs.length n k=n+(k-(S.obs.length+1)):=fun k hk=>by
   unfold atM
   rw [lit_eq,show Nat.blt k (S.obs.length+1)=false by rw [Bool.eq_false_iff,ne_eq,Nat.blt_eq]; exact hk,cond_false]
  rw [Bool.and_eq_true,Nat.ble_eq] at hσ
  have hsn:∀ k,k<S.obs.length+1→σ.getD k 0<n:=fun k hk=>by
   rw [List.getD_eq_getElem?_getD]
   cases hx:σ[k]? with
   | none=>rw [List.getElem?_eq_none_iff] at hx; omega
   | some y=>have:=List.all_eq_true.1 hσ.2 y (List.mem_of_getElem? hx); rw [Nat.blt_eq] at this; exact this
  have h1:=hm _ (List.mem_singleton.2 rfl)
  dsimp only at h1
  rw [lit_eq] at h1
  have hγ:atM σ S.obs.length n S.obs.length=σ.getD S.obs.length 0:=hat _ (by omega)
  refine (S.ok (fun k=>β (atM σ S.obs.length n k)) w (fun k t hk=>?_) ?_).mono ?_
  · have hlt:k<S.obs.length:=(List.getElem?_eq_some_iff.1 hk).1
    have:=h _ (needsM_at (i:=0) hk)
    rw [Nat.zero_add] at this
    show t.D w (β (atM σ S.obs.length n k))
    rw [hat k (by omega)]
    exact this
  · show S.a.holds (fun k=>β (atM σ S.obs.length n k)) w (β (atM σ S.obs.length n S.obs.length))
    rw [hγ]
    exact Ob.renL_holds.1 h1
  · rintro e w' ⟨xs,k1,rfl,k3,k4,k5⟩
    replace k4:S.b.holds (extE (fun k=>β (atM σ S.obs.length n k)) (S.obs.length+1) xs) w' (β (atM σ S.obs.length n S.obs.length)):=k4
    replace k5:TouchL w w' [(β (atM σ S.obs.length n S.obs.length)).b]:=k5
    rw [hγ] at k4 k5
    have hlen:=(newHold_get k3).1
    have hall:∀ k,Nat.blt k (S.obs.length+1+S.news.length)=true→extE (fun k=>β (atM σ S.obs.length n k)) (S.obs.length+1) xs k=extE β n xs (atM σ S.obs.length n k):=fun k hk=>by
     rw [Nat.blt_eq] at hk
     by_cases hk2:k<S.obs.length+1
     · have:=hsn k hk2
       rw [hat k hk2,extE_out (β:=β) (n:=n) (k:=σ.getD k 0) (xs:=xs) (by omega),extE_out (n:=S.obs.length+1) (k:=k) (xs:=xs) (by omega),hat k hk2]
     · rw [hat2 k hk2]
       have h5:k-(S.obs.length+1)<xs.length:=by omega
       rw [extE_in (List.getElem?_eq_getElem h5)]
       have:=extE_in (β:=fun k=>β (atM σ S.obs.length n k)) (n:=S.obs.length+1) (List.getElem?_eq_getElem h5)
       rw [show S.obs.length+1+(k-(S.obs.length+1))=k by omega] at this
       exact this
    refine ⟨xs,fun x hx c hc5=>?_,?_,k3,fun m hm2=>?_,?_⟩
    · rcases k1 x hx c hc5 with h5 | ⟨i,h5,h6⟩
      · exact .inl h5
      · refine .inr ⟨_,needsM_at (σ:=σ) (i:=0) (List.getElem?_eq_getElem h5),rfl,?_⟩
        rw [Nat.zero_add]
        have h7:(β (atM σ S.obs.length n i)).F c:=h6
        rw [hat i (by omega)] at h7
        exact h7
    · rw [SV.den_ren]
      congr 1
      exact SV.den_congr hall _ hc4
    · obtain rfl:=List.mem_singleton.1 hm2
      dsimp only
      rw [lit_eq]
      exact Ob.renL_holds.2 (Ob.holds_cgL hall hc3 k4)
    · rw [List.map_cons,List.map_nil]
      dsimp only
      rw [lit_eq]
      exact k5
def mtLay (o c:Ob):List (Nat × Nat):=match o,c with
 | .box xs _,.box ys _=>mtLs xs ys
 | .row xs _ _ _,.row ys _ _ _=>mtLs xs ys
 | _,_=>[]
def sigR {P:Program} (S:MSpec P) (xs:List SV) (ob:List Ob):List Nat :=
 sigL (mtVs S.args xs++(match ob[sigM (mtVs S.args xs) S.obs.length]? with | some c=>mtLay S.a c | none=>[])) 0 (S.obs.length+1)
def MSpec.e {P:Program} (S:MSpec P):Ev P:=.dyn (fun o _ _=>isCallB o) fun _ xs ob =>
 lits (sigR S xs ob) fun σ=>lit ob.length fun n=>if h:(Nat.ble (S.obs.length+1) σ.length&&σ.all fun k=>Nat.blt k n)=true then S.ev σ n h else .eqv 0 undef undef rfl
structure CRow (P:Program) where
 f:FuncId
 en:Enters P f
 args:List SV
 cs:List Lf
 t:TypeId
 row:Ob
 res:SV
 news:List Thing
 ok:∀ β w,(Ob.box cs t).holds β w (β 0)→Calls P f (args.map (SV.den β)).toArray w fun e w'=>∃ (g:Pl) (xs:List Pl),(w.heap.size≤g.b∧(∀ x∈xs,∀ c,x.F c→w.heap.size≤c)∧∀ x∈xs,¬ x.F g.b)∧e=.returned (res.den (extE β 1 (g::xs)))∧row.holds (extE β 1 (g::xs)) w' g∧newHold w' news xs∧Below w.heap.size w w'
 cl:(cs.all (Lf.of fun _=>false)&&(args.all (SV.of fun k=>Nat.beq k 0)&&(row.of (fun k=>Nat.ble 1 k&&Nat.blt k (2+news.length))&&res.of fun k=>Nat.ble 1 k&&Nat.blt k (2+news.length))))=true
def bkOfZ:List SV→Nat
 | []=>0
 | .one (.c (.b (.s k _ _ _)))::_=>k
 | _::r=>bkOfZ r
def CRow.e {P:Program} (S:CRow P):Ev P:=.dyn (fun o _ _=>isCallB o) fun _ xs ob=>lit (bkOfZ xs) fun i=>lit ob.length fun n =>
 .own S.f S.en (fun β=>(S.args.map (SV.den fun _=>β i)).toArray) [(i,.box S.cs S.t)] n (S.row.renL fun k=>n+(k-1)) (S.res.ren fun k=>n+(k-1)) S.news (fun β w h=>by
  have hc:=S.cl
  simp only [Bool.and_eq_true] at hc
  obtain ⟨c1,c2,c3,c4⟩:=hc
  have h1:(β i).one∧w.heap[(β i).b]?=some (.cells (S.cs.map (Lf.den β)).toArray S.t (0,0)):=h _ (List.mem_singleton.2 rfl)
  refine (S.ok (fun _=>β i) w ?_).mono ?_
  · show (β i).one∧w.heap[(β i).b]?=some (.cells (S.cs.map (Lf.den fun _=>β i)).toArray S.t (0,0))
    rw [show S.cs.map (Lf.den fun _=>β i)=S.cs.map (Lf.den β) from List.map_congr_left fun x hx=>Lf.den_congr (q:=fun _=>false) (fun k hk=>by cases hk) x (List.all_eq_true.1 c1 x hx)]
    exact h1
  · rintro e w' ⟨g,xs,⟨k1,k2,k3⟩,rfl,k5,k6,k7⟩
    have hlen:=(newHold_get k6).1
    have hall:∀ k,(Nat.ble 1 k&&Nat.blt k (2+S.news.length))=true→extE (fun _=>β i) 1 (g::xs) k=extE β n (g::xs) (n+(k-1)):=fun k hk=>by
     rw [Bool.and_eq_true,Nat.ble_eq,Nat.blt_eq] at hk
     have h5:k-1<(g::xs).length:=by rw [List.length_cons]; omega
     rw [extE_in (List.getElem?_eq_getElem h5)]
     have:=extE_in (β:=fun _=>β i) (n:=1) (List.getElem?_eq_getElem h5)
     rw [show 1+(k-1)=k by omega] at this
     exact this
    refine ⟨g,xs,⟨k1,fun x hx c hc=>.inl (k2 x hx c hc),k3⟩,?_,Ob.renL_holds.2 (Ob.holds_cgL hall c3 k5),k6,k7⟩
    rw [SV.den_ren]
    congr 1
    exact SV.den_congr hall _ c4)
theorem plain_lay {y x:Ob} (h:y.plain x=x) (hl:x.layOf.isSome=true):y.layOf.isSome=true:=by
 rw [← h] at hl
 cases y with
 | box cs t=>rfl
 | row cs t n sz=>rfl
 | th D=>cases x<;>first | (cases hl; done) | (simp only [Ob.plain] at hl; revert hl; cases Nat.beq _ _<;>exact fun h=>by cases h)
 | al r D=>cases x<;>first | (cases hl; done) | (simp only [Ob.plain] at hl; revert hl; cases Nat.beq _ _<;>exact fun h=>by cases h)
 | pl n=>cases hl
 | ow D t=>rfl
 | dead=>cases hl
theorem need_lay {q:Nat→Bool} {ob:List Ob}:∀ (outs:List (Nat × Ob)),Eqs.ok (needEqs q ob outs)→∀ p∈outs,p.2.layOf.isSome=true→∃ x,ob[p.1]?=some x∧x.layOf.isSome=true
 | [],_,p,hp,_=>by cases hp
 | (k,x)::r,h,p,hp,hl=>by
  unfold needEqs at h
  cases hq:q k with
  | false=>rw [hq] at h; exact (Eqs.no_ok h).elim
  | true =>
   cases ho:ob[k]? with
   | none=>rw [hq,ho] at h; exact (Eqs.no_ok h).elim
   | some y =>
    rw [hq,ho] at h
    obtain ⟨e1,e2⟩:=Eqs.cons_ok h
    rcases List.mem_cons.1 hp with rfl | hp
    · injection e1 with e1
      exact ⟨y,ho,plain_lay e1 hl⟩
    · exact need_lay r e2 p hp hl
theorem sxN {P:Program} {f:FuncId} {fn:Func} (args:List SV) (obs:List Ob) (evs:List (Ev P)) (Ns:List (Nat × Nat)) (m:Nat) (res:SV) (outs:List (Nat × Ob)) (hf:P.funcs[f]?=some fn) (hm:P.follows .mixedOrders=true)
  (hok:∀ β,Eqs.ok (allS P fn args obs evs Ns m res outs β))
  (hargs:args.all (SV.of fun k=>Nat.blt k obs.length)=true) (hobs:obs.all (fun x=>x.of (fun k=>Nat.blt k obs.length)&&x.own)=true) (β:Env) (w:World) (hh:∀ (k:Nat) (o:Ob),obs[k]?=some o→o.holds β w (β k)) :
  Calls P f (args.map (SV.den β)).toArray w fun e w'=>∃ (β':Env) (q:Nat→Bool) (obj:Nat→Option Ob),(∀ k,k<obs.length→β' k=β k)∧e=.returned (res.den β')∧res.of q=true∧(∀ p∈outs,∀ c,(β' p.1).F c→w.heap.size≤c∨∃ i,i<obs.length∧(β i).F c)∧holdsAll β' w' outs∧Fin w w'∧∀ p∈outs,p.2.layOf.isSome=true→obs.length≤p.1→w.heap.size≤(β' p.1).b:=by
 have hnal:∀ (k r:Nat) (D:Thing),obs[k]?≠some (.al r D):=fun k r D ho=>by
  have:=List.all_eq_true.1 hobs _ (List.mem_of_getElem? ho)
  simp [Ob.own] at this
 have huq:UniqAl obs:=fun k j i D _ h1 _=>absurd h1 (hnal k i D)
 have hlt:∀ k,k<obs.length→∀ c,(β k).F c→c<w.heap.size:=fun k hk c hc=>by
  have h:=hh k _ (List.getElem?_eq_getElem hk)
  cases hx:obs[k] with
  | box cs t=>rw [hx] at h; rw [(h.1.1 c).1 hc]; exact heap_lt h.2
  | th D=>rw [hx] at h; exact D.st.lt _ _ h c hc
  | al r D=>rw [hx] at h; exact D.st.lt _ _ h c hc
  | pl n=>rw [hx] at h; rw [(h.1.1 c).1 hc]; exact h.2.lt
  | row cs t n sz=>rw [hx] at h; rw [(h.1.1 c).1 hc]; exact heap_lt h.2.choose_spec.1
  | ow D t=>rw [hx] at h; exact D.st.lt _ _ h.2 c hc
  | dead =>
   have:=List.all_eq_true.1 hobs _ (List.mem_of_getElem? (List.getElem?_eq_getElem hk))
   rw [hx] at this
   simp [Ob.own] at this
 cases hb:fn.body with
 | none=>have:=hok β; unfold allS at this; rw [hb] at this; exact (Eqs.no_ok this).elim
 | some c =>
  have h1:∀ β,Eqs.ok (match fullS P fn args obs evs Ns m c with | some f=>fin1 P fn obs.length (sizeS fn args) res outs f β | none=>Eqs.no):=fun β=>by
   have:=hok β
   unfold allS at this
   rw [hb] at this
   exact this
  cases hr:fullS P fn args obs evs Ns m c with
  | none=>have:=h1 β; rw [hr] at this; exact (Eqs.no_ok this).elim
  | some g =>
   have h2:∀ β,Eqs.ok (fin1 P fn obs.length (sizeS fn args) res outs g β):=fun β=>by have:=h1 β; rw [hr] at this; exact this
   unfold fullS at hr
   obtain ⟨_,r2,r3⟩:=runC_ok hm _ _ _ _ _ hr ⟨fun k=>by dsimp only; rw [Nat.blt_eq],huq⟩
   have fin:∃ r:R1 Value,run1 P obs.length false (results fn (tmpsS idE g.sl (sizeS fn args))) g.q g.ob []=some r∧res.of g.q=true∧r.ob.length=g.ob.length ∧
     ∀ β,Eqs.ok (chk P β (results fn (tmpsS β g.sl (sizeS fn args))) r.tr.reverse (fun u=>[(.v u,.v (res.den β))])++(needEqs g.q g.ob outs++eqsOf β g.cs)):=by
    cases hx:run1 P obs.length false (results fn (tmpsS idE g.sl (sizeS fn args))) g.q g.ob [] with
    | none=>have:=h2 β; unfold fin1 at this; rw [hx] at this; exact (Eqs.no_ok this).elim
    | some r =>
     obtain ⟨ra,rq,rob,rtr⟩:=r
     cases hc:(res.of g.q&&Nat.beq rob.length g.ob.length&&Nat.beq g.ev.length 0) with
     | false=>have:=h2 β; unfold fin1 at this; rw [hx] at this; dsimp only at this; rw [hc] at this; exact (Eqs.no_ok this).elim
     | true =>
      have h3:=hc
      simp only [Bool.and_eq_true,Nat.beq_eq] at hc
      refine ⟨_,rfl,hc.1.1,hc.1.2,fun β=>?_⟩
      have:=h2 β
      unfold fin1 at this
      rw [hx] at this
      dsimp only at this
      rw [h3] at this
      exact this
   obtain ⟨r,f1,f2,f3,f4⟩:=fin
   have hgood:g.good:=fun β x hx=>eqsOf_ok (fun p hp=>f4 β p (List.mem_append.2 (.inr (List.mem_append.2 (.inr hp))))) x hx
   refine calls_of_wp hf hb (r3 hgood (B0:=bd0 w.heap.size obs.length) (w0:=w) (β:=β) ⟨⟨Keep.refl _ _,Nat.le_refl _,fun k o hk ho=>⟨hh k o ho,(Bool.and_eq_true _ _▸List.all_eq_true.1 hobs o (List.mem_of_getElem? ho)).1⟩,fun k hk=>hlt k (by simpa [Nat.blt_eq] using hk),fun k j hk _ _ hm=>?_,fun k _ hk hm=>?_,fun k hk hm=>?_,fun i hi=>by rw [Nat.blt_eq]; exact hi,fun k r D _ ho=>?_,fun k r D _ ho=>absurd ho (hnal k r D),fun k i _ hi _ hm=>by rw [Nat.blt_eq] at hi; omega⟩,fun k=>by dsimp only; rw [Nat.blt_eq],⟨?_,fun t=>?_⟩,fun t=>?_,⟨Nat.le_refl _,Nat.le_refl _⟩,rfl,huq⟩ _ fun β' a' w' e s=>?_)
   · rw [Nat.blt_eq] at hk; omega
   · rw [Nat.blt_eq] at hk; omega
   · rw [Nat.blt_eq] at hk; omega
   · exact absurd ho (hnal k r D)
   · simp [sizeS]
   · rw [look_start,if_pos (Nat.zero_le _),Nat.sub_zero]
     simp only [Array.getD_eq_getD_getElem?,Array.getElem?_append,List.size_toArray,List.length_map,List.getElem?_toArray,List.getElem?_map]
     split
     · rename_i hlt2
       rw [List.getElem?_eq_getElem hlt2]
       rfl
     · rename_i hge
       rw [List.getElem?_eq_none (by omega)]
       simp [Array.getElem?_replicate]
       split<;>rfl
   · dsimp only
     rw [look_start,if_pos (Nat.zero_le _),Nat.sub_zero]
     cases hx:args[t]? with
     | none=>rfl
     | some x=>exact List.all_eq_true.1 hargs x (List.mem_of_getElem? hx)
   · obtain ⟨h5,_,_,tr,h8,h9⟩:=run1_ok _ _ _ _ _ f1 (fun k hk=>(s.q k).1 hk)
     obtain ⟨k1,obj',k2,k3,k4⟩:=h9 _ _ _ _ _ _ s.good (fun k hk=>⟨hk,rfl⟩) (fun k a b=>by omega) s.m0.1
     have h6:=f4 β'
     rw [h8,List.append_nil,List.reverse_reverse] at h6
     have h7:Eqs.ok (chk P β' (results fn (tmpsS β' g.sl (sizeS fn args))) tr (fun u=>[(.v u,.v (res.den β'))])):=fun p hp=>h6 p (List.mem_append.2 (.inl hp))
     obtain ⟨v,hv,hv2⟩:=chk_run _ _ _ h7 k1
     obtain ⟨e1,_⟩:=Eqs.cons_ok hv2
     injection e1 with e1
     subst e1
     rw [f3,rangeQ_self] at k4
     have hend:trEnd β' w' tr=w':=by
      obtain ⟨tr2,x1,x2⟩:=run1_still _ _ _ _ _ f1 (fun k hk=>(s.q k).1 hk) f3
      rw [h8,List.append_nil,List.append_nil] at x1
      rw [List.reverse_inj.1 x1]
      exact x2 β' w'
     rw [hend] at hv k4
     rw [← tmps_eq s.sl] at hv
     have e:∀ k,k<obs.length→β' k=β k:=e
     have hout:∀ p:Nat × Ob,g.q p.1=true→∀ c,(β' p.1).F c→w.heap.size≤c∨∃ i,i<obs.length∧(β i).F c:=fun p hp c hc=>by
      by_cases h0:obs.length≤p.1
      · exact (s.good.fr p.1 hp h0 c hc).imp (fun a=>a.elim id False.elim) fun ⟨i,i1,i2⟩=>⟨i,i1,by rw [← e i i1]; exact i2⟩
      · exact .inr ⟨p.1,by omega,by rw [← e p.1 (by omega)]; exact hc⟩
     have hneed:Eqs.ok (needEqs g.q g.ob outs):=fun p hp=>f4 β' p (List.mem_append.2 (.inr (List.mem_append.2 (.inl hp))))
     have hlow:∀ p∈outs,p.2.layOf.isSome=true→obs.length≤p.1→w.heap.size≤(β' p.1).b:=fun p hp hl hm=>by
      obtain ⟨x,hx,hy⟩:=need_lay _ hneed p hp hl
      exact (s.good.lowm p.1 x (needs_q _ hneed p hp) hm hx (by cases hy2:x.layOf with | none=>rw [hy2] at hy; cases hy | some q=>exact lay_mine hy2)).elim id False.elim
     have hres:bodyPost P fn (fun e w'=>∃ (β':Env) (q:Nat→Bool) (obj:Nat→Option Ob),(∀ k,k<obs.length→β' k=β k)∧e=.returned (res.den β')∧res.of q=true∧(∀ p∈outs,∀ c,(β' p.1).F c→w.heap.size≤c∨∃ i,i<obs.length∧(β i).F c)∧holdsAll β' w' outs∧Fin w w'∧∀ p∈outs,p.2.layOf.isSome=true→obs.length≤p.1→w.heap.size≤(β' p.1).b) .normal a' w':=⟨s.defers,_,hv,β',g.q,obj',e,rfl,f2,fun p hp c hc=>hout p (needs_q _ hneed p hp) c hc,needs_hold s.good (fun k hk=>⟨hk,rfl⟩) _ hneed,⟨k4.bel.below⟩,fun p hp hl hm=>hlow p hp hl hm⟩
     exact ⟨hres,hres⟩
def sFrat {x:Rat} (h:Fit x):Spec Tryz.prog :=
 ⟨129,Tryz.call129,[.one (.a (fC x))],[],.one (.c (.b (.z 0 0))),[ratT x],fun β w hh=>by
  obtain ⟨y,hp⟩:=parts_of (fitF x h)
  obtain rfl:x=y:=fracV_inj hp.val
  exact (rat_frac hp).mono fun e w' ⟨g,he,h1,h2,h3⟩=>⟨[newPl g],fun y hy c hc=>by
   obtain rfl:=List.mem_singleton.1 hy
   rw [((newPl_one g).1 c).1 hc]
   exact .inl h1,by rw [he]; exact congrArg Ending.returned (extE_z β 0 0 (newPl g)).symm,⟨⟨g,(newPl_one g).at1,h2⟩,trivial⟩,h3⟩,by kernel_rfl⟩
def sFCmp {x y:Rat} (hx:Fit x) (hy:Fit y):Spec Tryz.prog :=
 Spec.auto Tryz.call126 [.one (.a (fC x)),.one (.a (fC y))] [] (.tup [svI (cmpQ x y),nI' 0]) []
  [eMayF x hx,eMayF y hy,(sFrat hx).e,(sFrat hy).e,nCmp (hx.sz.mono (by decide)) (hy.sz.mono (by decide)) rfl] [(3,7)] 400 Tryz.func126 hmA (by kernel_rfl) (fun β=>by kernel_rfl)
def sR3Cmp {x y:Rat} (hx:Fit x) (hy:Fit y):Spec Tryz.prog :=
 (Spec.auto Tryz.call18 [.one (.a (fC x)),.one (.a (fC y))] [] (.one (svI (cmpI (x.num*y.den) (y.num*x.den)))) []
  [eWTimes (Nat.le_trans hx.sz.1 (by decide)) (Nat.le_trans hy.sz.2 (by decide)),eWTimes (Nat.le_trans hy.sz.1 (by decide)) (Nat.le_trans hx.sz.2 (by decide)),eWCmp (Nat.le_trans (sz_mul hx.sz.1 hy.sz.2) (by decide)) (Nat.le_trans (sz_mul hy.sz.1 hx.sz.2) (by decide))] [(1,12)] 400 Tryz.func18 hmA (by kernel_rfl) (fun β=>by kernel_rfl)).conv (.one (svI (cmpQ x y))) (congrArg (fun n=>SV.one (svI n)) (cmpQ_of x y))
def cmpG (r:Bool) (z w:GQ):Int:=bif r then cmpQ z.re w.re else cmpQ z.im w.im
theorem ne_lit {a:Int} {r:Bool} (h:(!(a==0))=r):Value.bool (!(a==0))=.bool r:=by rw [h]
noncomputable def sGCmp {z w:GQ} (hz:FitG z) (hw:FitG w) {r s:Bool} (hr:(!(cmpQ z.re w.re==0))=r) (hs:(!(cmpQ z.im w.im==0))=s):Spec Tryz.prog :=
 ⟨326,Tryz.call326,[gS z,gS w],[],.tup [svI (cmpG r z w),nI' 0],[],fun β w' hh=>by
  cases r with
  | true=>exact spec_auto (evs:=[(sGM (gpX z hz) (r:=true) rfl).e,(sGM (gpX w hw) (r:=true) rfl).e,(sFCmp hz.1 hw.1).e,.eqv 41 (.bool (!(cmpQ z.re w.re==0))) (.bool true) (ne_lit hr)]) (Ns:=[]) (m:=800) Tryz.func326 hmA (fun β=>by kernel_rfl) (by kernel_rfl) β w' hh
  | false=>cases s with
   | true=>exact spec_auto (evs:=[(sGM (gpX z hz) (r:=true) rfl).e,(sGM (gpX w hw) (r:=true) rfl).e,(sFCmp hz.1 hw.1).e,.eqv 41 (.bool (!(cmpQ z.re w.re==0))) (.bool false) (ne_lit hr),(sFCmp hz.2 hw.2).e,.eqv 41 (.bool (!(cmpQ z.im w.im==0))) (.bool true) (ne_lit hs)]) (Ns:=[]) (m:=800) Tryz.func326 hmA (fun β=>by kernel_rfl) (by kernel_rfl) β w' hh
   | false =>
    have e:cmpG false z w=0:=by
     show cmpQ z.im w.im=0
     rwa [Bool.not_eq_false',beq_iff_eq] at hs
    rw [e]
    exact spec_auto (evs:=[(sGM (gpX z hz) (r:=true) rfl).e,(sGM (gpX w hw) (r:=true) rfl).e,(sFCmp hz.1 hw.1).e,.eqv 41 (.bool (!(cmpQ z.re w.re==0))) (.bool false) (ne_lit hr),(sFCmp hz.2 hw.2).e,.eqv 41 (.bool (!(cmpQ z.im w.im==0))) (.bool false) (ne_lit hs)]) (Ns:=[]) (m:=800) Tryz.func326 hmA (fun β=>by kernel_rfl) (by kernel_rfl) β w' hh,by kernel_rfl⟩
def sR4Cmp {z w:GQ} (hz:FitG z) (hw:FitG w) {r:Bool} (hr:(!(cmpQ z.re w.re==0))=r):Spec Tryz.prog :=
 ⟨171,Tryz.call171,[gS z,gS w],[],.one (svI (cmpG r z w)),[],fun β w' hh=>by
  cases r with
  | true=>exact spec_auto (evs:=[(sR3Cmp hz.1 hw.1).e,.eqv 12 (.bool (!(cmpQ z.re w.re==0))) (.bool true) (ne_lit hr)]) (Ns:=[]) (m:=400) Tryz.func171 hmA (fun β=>by kernel_rfl) (by kernel_rfl) β w' hh
  | false=>exact spec_auto (evs:=[(sR3Cmp hz.1 hw.1).e,.eqv 12 (.bool (!(cmpQ z.re w.re==0))) (.bool false) (ne_lit hr),(sR3Cmp hz.2 hw.2).e]) (Ns:=[]) (m:=400) Tryz.func171 hmA (fun β=>by kernel_rfl) (by kernel_rfl) β w' hh,by kernel_rfl⟩
def smE (k:Nat) (x y:R4) (a b c d:Bool) (ha:big k x.s=a) (hb:big k x.t=b) (hc:big k y.s=c) (hd:big k y.t=d):List (Ev Tryz.prog) :=
 evBig k x.s 23 a ha::bif a then [] else evBig k x.t 31 b hb::bif b then [] else evBig k y.s 40 c hc::bif c then [] else [evBig k y.t 49 d hd]
theorem small42_ok (k:Nat) (x y x' y':R4) {r:Bool} (hr:(smB k x y&&smB k x' y')=r) (β:Env) (w:World) (hh:(Ob.box (x.L++y.L++x'.L++y'.L) 49).holds β w (β 0)) :
  Calls Tryz.prog 67 (([.one (.c (.b (.v (.int .i64 (k:Int))))),.one (.c (.b (.s 0 0 2 2)))]:List SV).map (SV.den β)).toArray w fun e w'=>e=.returned (.bool r)∧Below w.heap.size w w':=by
 unfold smB at hr
 have fin:∀ {a b c d:Bool} (ha:big k x.s=a) (hb:big k x.t=b) (hc:big k y.s=c) (hd:big k y.t=d) {a' b' c' d':Bool} (ha':big k x'.s=a') (hb':big k x'.t=b') (hc':big k y'.s=c') (hd':big k y'.t=d'),
   Calls Tryz.prog 67 (([.one (.c (.b (.v (.int .i64 (k:Int))))),.one (.c (.b (.s 0 0 2 2)))]:List SV).map (SV.den β)).toArray w fun e w'=>e=.returned (.bool (!(a||(b||(c||d)))&&!(a'||(b'||(c'||d')))))∧Below w.heap.size w w':=by
  intro a b c d ha hb hc hd a' b' c' d' ha' hb' hc' hd'
  cases a
  · cases b
    · cases c
      · cases d
        · cases a'
          · cases b'
            · cases c'
              · cases d'<;>exact bspec_ok (smE k x y _ _ _ _ ha hb hc hd++smE k x' y' _ _ _ _ ha' hb' hc' hd') [] 1200 Tryz.func67 hmA (fun β=>by kernel_rfl) (by kernel_rfl) (fun β=>rfl) β w hh
              · exact bspec_ok (smE k x y _ _ _ _ ha hb hc hd++smE k x' y' _ _ _ _ ha' hb' hc' hd') [] 1200 Tryz.func67 hmA (fun β=>by kernel_rfl) (by kernel_rfl) (fun β=>rfl) β w hh
            · exact bspec_ok (smE k x y _ _ _ _ ha hb hc hd++smE k x' y' _ _ _ _ ha' hb' hc' hd') [] 1200 Tryz.func67 hmA (fun β=>by kernel_rfl) (by kernel_rfl) (fun β=>rfl) β w hh
          · exact bspec_ok (smE k x y _ _ _ _ ha hb hc hd++smE k x' y' _ _ _ _ ha' hb' hc' hd') [] 1200 Tryz.func67 hmA (fun β=>by kernel_rfl) (by kernel_rfl) (fun β=>rfl) β w hh
        · exact bspec_ok (smE k x y _ _ _ _ ha hb hc hd) [] 1200 Tryz.func67 hmA (fun β=>by kernel_rfl) (by kernel_rfl) (fun β=>rfl) β w hh
      · exact bspec_ok (smE k x y _ _ _ _ ha hb hc hd) [] 1200 Tryz.func67 hmA (fun β=>by kernel_rfl) (by kernel_rfl) (fun β=>rfl) β w hh
    · exact bspec_ok (smE k x y _ _ _ _ ha hb hc hd) [] 1200 Tryz.func67 hmA (fun β=>by kernel_rfl) (by kernel_rfl) (fun β=>rfl) β w hh
  · exact bspec_ok (smE k x y _ _ _ _ ha hb hc hd) [] 1200 Tryz.func67 hmA (fun β=>by kernel_rfl) (by kernel_rfl) (fun β=>rfl) β w hh
 have:=fin (a:=big k x.s) rfl rfl rfl rfl (a':=big k x'.s) rfl rfl rfl rfl
 rw [hr] at this
 exact this
def sR4Small2 (k:Nat) (x y x' y':R4) {b:Bool} (hb:(smB k x y&&smB k x' y')=b):BSpec Tryz.prog :=
 ⟨67,Tryz.call67,[.one (.c (.b (.v (.int .i64 (k:Int))))),.one (.c (.b (.s 0 0 2 2)))],x.L++y.L++x'.L++y'.L,49,.bool b,small42_ok k x y x' y' hb,by kernel_rfl,fun _=>rfl⟩
structure RSpec (P:Program) where
 f:FuncId
 en:Enters P f
 args:List SV
 src:Ob
 res:SV
 ok:∀ β w,src.holds β w (β 0)→Calls P f (args.map (SV.den β)).toArray w fun e w'=>e=.returned (res.den β)∧Below w.heap.size w w'
 cl:(src.of (fun _=>false)&&(args.all (SV.of fun k=>Nat.beq k 0)&&res.of fun k=>Nat.beq k 0))=true
def bkOfR:List SV→Nat
 | []=>0
 | .one (.c (.b (.r k _)))::_=>k
 | _::r=>bkOfR r
def RSpec.e {P:Program} (S:RSpec P):Ev P:=.dyn (fun o _ _=>isCallB o) fun _ xs ob=>lit (bkOfR xs) fun i=>lit ob.length fun n =>
 .call S.f S.en (fun β=>(S.args.map (SV.den fun _=>β i)).toArray) [(i,S.src)] n (S.res.ren fun _=>i) [] (fun β w h=>by
  have hc:=S.cl
  simp only [Bool.and_eq_true] at hc
  obtain ⟨c1,c2,c3⟩:=hc
  have h1:S.src.holds β w (β i):=h _ (List.mem_singleton.2 rfl)
  refine (S.ok (fun _=>β i) w (Ob.holds_congr (q:=fun _=>false) (fun k hk=>by cases hk) _ c1 h1)).mono fun e w' ⟨k1,k2⟩=>⟨[],(fun _ h=>by cases h),?_,trivial,k2⟩
  rw [k1,extE_nil,SV.den_ren])
theorem rspec_ok {P:Program} {f:FuncId} {fn:Func} {args:List SV} {src:Ob} {res:SV} (evs:List (Ev P)) (Ns:List (Nat × Nat)) (m:Nat) (hf:P.funcs[f]?=some fn) (hm:P.follows .mixedOrders=true)
  (h:∀ β,(allS P fn args [src] evs Ns m res [] β).map Prod.fst=(allS P fn args [src] evs Ns m res [] β).map Prod.snd)
  (hB:(args.all (SV.of fun k=>Nat.blt k 1)&&[src].all fun x=>x.of (fun k=>Nat.blt k 1)&&x.own)=true) (hr:(res.of fun k=>Nat.beq k 0)=true) (β:Env) (w:World) (hh:src.holds β w (β 0)) :
  Calls P f (args.map (SV.den β)).toArray w fun e w'=>e=.returned (res.den β)∧Below w.heap.size w w':=by
 rw [Bool.and_eq_true] at hB
 refine (sx (P:=P) args [src] evs Ns m res [] hf hm (fun β=>ok_of_maps (h β)) hB.1 hB.2 β w (fun k o ho=>?_)).mono ?_
 · cases k with
   | zero=>simp only [List.getElem?_cons_zero] at ho; obtain rfl:=Option.some.inj ho; exact hh
   | succ k=>simp at ho
 · rintro e w' ⟨β',q,obj,e1,rfl,_,_,_,g⟩
   refine ⟨?_,g.bel⟩
   rw [SV.den_congr (β:=β') (β':=β) (q:=fun k=>Nat.beq k 0) (fun k hk=>by have:=Nat.eq_of_beq_eq_true hk; subst this; exact e1 0 (Nat.zero_lt_one)) res hr]
def RSpec.auto {P:Program} {f:FuncId} {fn:Func} (en:Enters P f) (args:List SV) (src:Ob) (res:SV) (evs:List (Ev P)) (Ns:List (Nat × Nat)) (m:Nat) (hf:P.funcs[f]?=some fn) (hm:P.follows .mixedOrders=true)
  (hB:(args.all (SV.of fun k=>Nat.blt k 1)&&[src].all fun x=>x.of (fun k=>Nat.blt k 1)&&x.own)=true) (hr:(res.of fun k=>Nat.beq k 0)=true)
  (cl:(src.of (fun _=>false)&&(args.all (SV.of fun k=>Nat.beq k 0)&&res.of fun k=>Nat.beq k 0))=true)
  (h:∀ β,(allS P fn args [src] evs Ns m res [] β).map Prod.fst=(allS P fn args [src] evs Ns m res [] β).map Prod.snd):RSpec P :=
 ⟨f,en,args,src,res,rspec_ok evs Ns m hf hm h hB hr,cl⟩
theorem mrow_ok {P:Program} {f:FuncId} {fn:Func} {args:List SV} {cs ds:List Lf} {t:TypeId} {n sz:Nat} (evs:List (Ev P)) (Ns:List (Nat × Nat)) (m:Nat) (hf:P.funcs[f]?=some fn) (hm:P.follows .mixedOrders=true)
  (h:∀ β,(allM P 0 fn args [.row cs t n sz] evs Ns m (.tup []) [(0,.row ds t n sz)] β).map Prod.fst=(allM P 0 fn args [.row cs t n sz] evs Ns m (.tup []) [(0,.row ds t n sz)] β).map Prod.snd)
  (hB:(args.all (SV.of fun k=>Nat.blt k 1)&&[Ob.row cs t n sz].all fun x=>x.of (fun k=>Nat.blt k 1)&&x.own)=true) (hd:(Ob.row ds t n sz).of (fun _=>false)=true) (β:Env) (w:World)
  (hh:∀ (k:Nat) (t:Thing),([]:List Thing)[k]?=some t→t.D w (β k)) (ha:(Ob.row cs t n sz).holds β w (β 0)) :
  Calls P f (args.map (SV.den β)).toArray w fun e w'=>∃ xs:List Pl,freshS β w 0 xs∧e=.returned ((SV.tup []).den (extE β 1 xs))∧newHold w' [] xs∧(Ob.row ds t n sz).holds (extE β 1 xs) w' (β 0)∧TouchL w w' [(β 0).b]:=by
 rw [Bool.and_eq_true] at hB
 refine (sxM (P:=P) 0 args [.row cs t n sz] evs Ns m (.tup []) [(0,.row ds t n sz)] hf hm (fun β=>ok_of_maps (h β)) (Nat.zero_le _) hB.1 hB.2 (fun k k1 k2=>?_) (fun k k1 k2=>?_) β w (fun k o ho=>?_) (fun k j k1 k2 k3 k4=>?_)).mono ?_
 · obtain rfl:k=0:=by simp only [List.length_singleton] at k2; omega
   rfl
 · obtain rfl:k=0:=by simp only [List.length_singleton] at k2; omega
   exact ⟨_,_,List.mem_cons_self ..,rfl⟩
 · cases k with
   | zero=>simp only [List.getElem?_cons_zero] at ho; obtain rfl:=Option.some.inj ho; exact ha
   | succ k=>simp at ho
 · simp only [List.length_singleton] at k2 k3
   omega
 · rintro e u ⟨β',q,e1,rfl,e3,e4,e5,e6⟩
   have b0:β' 0=β 0:=e1 0 (by show 0<1; decide)
   have h5:=e5 _ (List.mem_cons_self ..)
   refine ⟨[],(fun _ h=>by cases h),rfl,trivial,?_,⟨e6.os,e6.tape,e6.output,e6.size,fun k hk hne=>e6.block k hk fun ⟨i,i1,i2,hS⟩=>?_⟩⟩
   · dsimp only at h5
     rw [b0] at h5
     exact Ob.holds_congr (q:=fun _=>false) (fun k hk=>by cases hk) _ hd h5
   · obtain rfl:i=0:=by simp only [List.length_singleton] at i2; omega
     exact hne (by rw [hS]; exact List.mem_singleton.2 rfl)
abbrev PTT:TypeId:=51
abbrev pw (p:Pt):List Lf:=rawC p.i p.x p.y
abbrev pr2 (p q:Pt):Ob:=.row (pw p++pw q) PTT 2 9
abbrev r2V:SV:=.one (.c (.b (.r 0 2)))
def sChk1 {p:Pt} (hp:FitP p):Spec Tryz.prog :=
 ⟨325,Tryz.call325,[svP p],[],.one (.c (.b (.v (.bool false)))),[],fun β w hh=>by
  cases p
  · exact spec_auto (args:=[svP .inf]) (obs:=[]) (evs:=[(sPMay (ppt .inf hp)).e]) (Ns:=[]) (m:=400) Tryz.func325 hmA (fun β=>by kernel_rfl) (by kernel_rfl) β w hh
  · rename_i z
    exact spec_auto (args:=[svP (.fin z)]) (obs:=[]) (evs:=[(sPMay (ppt (.fin z) hp)).e]) (Ns:=[]) (m:=400) Tryz.func325 hmA (fun β=>by kernel_rfl) (by kernel_rfl) β w hh,by cases p<;>kernel_rfl⟩
noncomputable def sPIdx2 {p q:Pt} (hp:FitP p) (hq:FitP q):RSpec Tryz.prog :=
 RSpec.auto Tryz.call340 [r2V,fvV 325] (pr2 p q) (.one (svI (-1))) [(sChk1 hp).e,(sChk1 hq).e] [] 800 Tryz.func340 hmA (by kernel_rfl) (by kernel_rfl) (by kernel_rfl) (fun β=>by kernel_rfl)
noncomputable def sPHas2 {p q:Pt} (hp:FitP p) (hq:FitP q):RSpec Tryz.prog :=
 RSpec.auto Tryz.call219 [r2V,fvV 325] (pr2 p q) (.one (.c (.b (.v (.bool false))))) [(sPIdx2 hp hq).e] [] 400 Tryz.func219 hmA (by kernel_rfl) (by kernel_rfl) (by kernel_rfl) (fun β=>by kernel_rfl)
noncomputable def sPCheck2 {p q:Pt} (hp:FitP p) (hq:FitP q):RSpec Tryz.prog :=
 RSpec.auto Tryz.call166 [r2V] (pr2 p q) (.one (svI 0)) [(sPHas2 hp hq).e] [] 400 Tryz.func166 hmA (by kernel_rfl) (by kernel_rfl) (by kernel_rfl) (fun β=>by kernel_rfl)
noncomputable def ordI:Pt→Pt→Int
 | .inf,.inf=>0
 | .inf,_=>1
 | _,.inf=>-1
 | .fin z,.fin w=>cmpG (!(cmpQ z.re w.re==0)) z w
noncomputable def sOrder {p q:Pt} (hp:FitP p) (hq:FitP q):Spec Tryz.prog :=
 ⟨167,Tryz.call167,[svP p,svP q],[],.one (svI (ordI p q)),[],fun β w hh=>by
  cases p<;>cases q
  · exact spec_auto (args:=[svP .inf,svP .inf]) (obs:=[]) (evs:=[]) (Ns:=[]) (m:=800) Tryz.func167 hmA (fun β=>by kernel_rfl) (by kernel_rfl) β w hh
  · rename_i z
    exact spec_auto (args:=[svP .inf,svP (.fin z)]) (obs:=[]) (evs:=[]) (Ns:=[]) (m:=800) Tryz.func167 hmA (fun β=>by kernel_rfl) (by kernel_rfl) β w hh
  · rename_i z
    exact spec_auto (args:=[svP (.fin z),svP .inf]) (obs:=[]) (evs:=[]) (Ns:=[]) (m:=800) Tryz.func167 hmA (fun β=>by kernel_rfl) (by kernel_rfl) β w hh
  · rename_i z u
    exact spec_auto (args:=[svP (.fin z),svP (.fin u)]) (obs:=[]) (evs:=[(sGCmp (z:=z) (w:=u) hp hq rfl rfl).e]) (Ns:=[]) (m:=800) Tryz.func167 hmA (fun β=>by kernel_rfl) (by kernel_rfl) β w hh,by cases p<;>cases q<;>kernel_rfl⟩
theorem lss_lit {n:Int} {b:Bool} (h:decide (n<0)=b):Value.bool (decide (n<0))=.bool b:=by rw [h]
section
variable {p q:Pt} (hp:FitP p) (hq:FitP q)
noncomputable def insE {b:Bool} (h:decide (ordI q p<0)=b):List (Ev Tryz.prog):=[(sOrder hq hp).e,.eqv 33 (.bool (decide (ordI q p<0))) (.bool b) (lss_lit h)]
noncomputable def sInsNo (h:decide (ordI q p<0)=false):MSpec Tryz.prog :=
 ⟨418,Tryz.call418,[r2V,.one (svI 0),.one (svI 2),fvV 167],[],pr2 p q,pr2 p q,.tup [],[],
  mrow_ok (insE hp hq h) [(4,17),(6,1015016)] 800 Tryz.func418 hmA (fun β=>by kernel_rfl) (by kernel_rfl) (by kernel_rfl),by kernel_rfl⟩
noncomputable def sInsYes (h:decide (ordI q p<0)=true):MSpec Tryz.prog :=
 ⟨418,Tryz.call418,[r2V,.one (svI 0),.one (svI 2),fvV 167],[],pr2 p q,pr2 q p,.tup [],[],
  mrow_ok (insE hp hq h) [(4,17),(6,1015016)] 800 Tryz.func418 hmA (fun β=>by kernel_rfl) (by kernel_rfl) (by kernel_rfl),by kernel_rfl⟩
end
structure RRow (P:Program) where
 f:FuncId
 en:Enters P f
 args:List SV
 src:Ob
 row:Ob
 res:SV
 ok:∀ β w,src.holds β w (β 0)→Calls P f (args.map (SV.den β)).toArray w fun e w'=>∃ g:Pl,w.heap.size≤g.b∧e=.returned (res.den (fun _=>g))∧row.holds (fun _=>g) w' g∧Below w.heap.size w w'
 cl:(src.of (fun _=>false)&&(row.of (fun _=>false)&&(args.all (SV.of fun k=>Nat.beq k 0)&&res.of fun k=>Nat.beq k 0)))=true
def RRow.e {P:Program} (S:RRow P):Ev P:=.dyn (fun o _ _=>isCallB o) fun _ xs ob=>lit (bkOfR xs) fun i=>lit ob.length fun n =>
 .own S.f S.en (fun β=>(S.args.map (SV.den fun _=>β i)).toArray) [(i,S.src)] n S.row (S.res.ren fun _=>n) [] (fun β w h=>by
  have hc:=S.cl
  simp only [Bool.and_eq_true] at hc
  obtain ⟨c1,c2,c3,c4⟩:=hc
  have h1:S.src.holds β w (β i):=h _ (List.mem_singleton.2 rfl)
  refine (S.ok (fun _=>β i) w (Ob.holds_congr (q:=fun _=>false) (fun k hk=>by cases hk) _ c1 h1)).mono ?_
  rintro e w' ⟨g,k1,rfl,k3,k4⟩
  have hg:extE β n [g] n=g:=extE_in (i:=0) (xs:=[g]) rfl
  refine ⟨g,[],⟨k1,(fun _ h=>by cases h),(fun _ h=>by cases h)⟩,?_,Ob.holds_congr (q:=fun _=>false) (fun k hk=>by cases hk) _ c2 k3,trivial,k4⟩
  rw [SV.den_ren]
  congr 1
  exact SV.den_congr (q:=fun k=>Nat.beq k 0) (fun k _=>hg.symm) _ c4)
theorem rrow_ok {P:Program} {f:FuncId} {fn:Func} {args:List SV} {src:Ob} {cs:List Lf} {t:TypeId} {n sz N:Nat} (evs:List (Ev P)) (Ns:List (Nat × Nat)) (m:Nat) (hf:P.funcs[f]?=some fn) (hm:P.follows .mixedOrders=true)
  (h:∀ β,(allS P fn args [src] evs Ns m (.one (.c (.b (.r N n)))) [(N,.row cs t n sz)] β).map Prod.fst=(allS P fn args [src] evs Ns m (.one (.c (.b (.r N n)))) [(N,.row cs t n sz)] β).map Prod.snd)
  (hN:Nat.ble 1 N=true) (hB:(args.all (SV.of fun k=>Nat.blt k 1)&&[src].all fun x=>x.of (fun k=>Nat.blt k 1)&&x.own)=true) (hr:(Ob.row cs t n sz).of (fun _=>false)=true) (β:Env) (w:World) (hh:src.holds β w (β 0)) :
  Calls P f (args.map (SV.den β)).toArray w fun e w'=>∃ g:Pl,w.heap.size≤g.b∧e=.returned ((SV.one (.c (.b (.r 0 n)))).den (fun _=>g))∧(Ob.row cs t n sz).holds (fun _=>g) w' g∧Below w.heap.size w w':=by
 rw [Bool.and_eq_true] at hB
 rw [Nat.ble_eq] at hN
 refine (sxN (P:=P) args [src] evs Ns m (.one (.c (.b (.r N n)))) [(N,.row cs t n sz)] hf hm (fun β=>ok_of_maps (h β)) hB.1 hB.2 β w (fun k o ho=>?_)).mono ?_
 · cases k with
   | zero=>simp only [List.getElem?_cons_zero] at ho; obtain rfl:=Option.some.inj ho; exact hh
   | succ k=>simp at ho
 · rintro e w' ⟨β',q,obj,e1,rfl,_,e4,e5,g,hl⟩
   have h5:=e5 _ (List.mem_cons_self ..)
   exact ⟨β' N,hl _ (List.mem_cons_self ..) rfl hN,rfl,Ob.holds_congr (q:=fun _=>false) (fun k hk=>by cases hk) _ hr h5,g.bel⟩
theorem pt_some:(Tryz.prog.info? PTT).isSome=true:=by kernel_rfl
noncomputable def appPt:AppT Tryz.prog :=
 ⟨91,PTT,(Tryz.prog.info? PTT).get pt_some,.agg #[.bool false,.bool false,.string ⟨#[]⟩,.bool false,.string ⟨#[]⟩,.bool false,.string ⟨#[]⟩,.bool false,.string ⟨#[]⟩],9,104,Tryz.underlying91,(Option.some_get pt_some).symm,by kernel_rfl,by kernel_rfl,by kernel_rfl,rfl,by decide,by decide⟩
noncomputable def sPClone (p q:Pt):RRow Tryz.prog :=
 ⟨363,Tryz.call363,[r2V],pr2 p q,pr2 p q,r2V,
  rrow_ok (N:=2) [.app appPt,.app appPt] [] 400 Tryz.func363 hmA (fun β=>by kernel_rfl) (by kernel_rfl) (by kernel_rfl) (by kernel_rfl),by kernel_rfl⟩
def sLen64:Spec Tryz.prog :=
 Spec.auto Tryz.call427 [.one (.c (.b (.v (.int .u64 2))))] [] (.one (svI 2)) [] [] [] 400 Tryz.func427 hmA (by kernel_rfl) (fun β=>by kernel_rfl)
def sBits2:Spec Tryz.prog :=
 Spec.auto Tryz.call406 [.one (.c (.b (.v (.int .u64 2))))] [] (.one (svI 2)) [] [sLen64.e] [] 400 Tryz.func406 hmA (by kernel_rfl) (fun β=>by kernel_rfl)
section
variable {p q:Pt} (hp:FitP p) (hq:FitP q)
noncomputable def sPdqNo (h:decide (ordI q p<0)=false):MSpec Tryz.prog :=
 ⟨405,Tryz.call405,[r2V,.one (svI 0),.one (svI 2),.one (svI 2),fvV 167],[],pr2 p q,pr2 p q,.tup [],[],
  mrow_ok [(sInsNo hp hq h).e] [(17,17)] 800 Tryz.func405 hmA (fun β=>by kernel_rfl) (by kernel_rfl) (by kernel_rfl),by kernel_rfl⟩
noncomputable def sPdqYes (h:decide (ordI q p<0)=true):MSpec Tryz.prog :=
 ⟨405,Tryz.call405,[r2V,.one (svI 0),.one (svI 2),.one (svI 2),fvV 167],[],pr2 p q,pr2 q p,.tup [],[],
  mrow_ok [(sInsYes hp hq h).e] [(17,17)] 800 Tryz.func405 hmA (fun β=>by kernel_rfl) (by kernel_rfl) (by kernel_rfl),by kernel_rfl⟩
noncomputable def sSortNo (h:decide (ordI q p<0)=false):MSpec Tryz.prog :=
 ⟨364,Tryz.call364,[r2V,fvV 167],[],pr2 p q,pr2 p q,.tup [],[],
  mrow_ok [sBits2.e,(sPdqNo hp hq h).e] [] 800 Tryz.func364 hmA (fun β=>by kernel_rfl) (by kernel_rfl) (by kernel_rfl),by kernel_rfl⟩
noncomputable def sSortYes (h:decide (ordI q p<0)=true):MSpec Tryz.prog :=
 ⟨364,Tryz.call364,[r2V,fvV 167],[],pr2 p q,pr2 q p,.tup [],[],
  mrow_ok [sBits2.e,(sPdqYes hp hq h).e] [] 800 Tryz.func364 hmA (fun β=>by kernel_rfl) (by kernel_rfl) (by kernel_rfl),by kernel_rfl⟩
end
noncomputable def sCompact2 {p q:Pt} (h:ptB q p=false):RSpec Tryz.prog :=
 RSpec.auto Tryz.call365 [r2V] (pr2 p q) r2V [eqEvPt h] [(6,10)] 400 Tryz.func365 hmA (by kernel_rfl) (by kernel_rfl) (by kernel_rfl) (fun β=>by kernel_rfl)
theorem pow_dig (m:Nat):(4294967296:Nat)^(m+1)=256^(4*m)*4294967296:=by
 rw [Nat.pow_succ,Nat.pow_mul]
theorem dig_big {n k:Nat} (h:n<256^k) (hk:k≤8000):(dig (5*n)).length≤4294967296:=by
 obtain ⟨m,hm⟩:∃ m:Nat,m=2000:=⟨_,rfl⟩
 have hkm:k≤4*m:=by omega
 refine Nat.le_trans (dig_len_le (5*n) (m+1) ?_) (by omega)
 have h1:256^k≤256^(4*m):=Nat.pow_le_pow_right (by decide) hkm
 rw [pow_dig]
 generalize (256:Nat)^(4*m)=z at h1
 omega
abbrev KS:Nat:=4000
structure RootB (x:Rat) (n d a b:Nat):Prop where
 hn:x.num=(n:Int)
 hd:(x.den:Int)=(d:Int)
 a1:a*a≤n
 a2:n<(a+1)*(a+1)
 b1:b*b≤d
 b2:d<(b+1)*(b+1)
 ln:(dig (5*n)).length≤4294967296
 ld:(dig (5*d)).length≤4294967296
 b0:(b:Int)≠0
 sa:sz (a:Int)≤KS
 sb:sz (b:Int)≤KS
def Spec.newsAs {P:Program} (S:Spec P) (l:List Thing) (h:S.news=l):Spec P :=
 ⟨S.f,S.en,S.args,S.obs,S.res,l,fun β w hh=>by rw [← h]; exact S.ok β w hh,by rw [← h]; exact S.closed⟩
section
variable {u:GQ} (hu:GSz 64 u)
include hu
end
def sERoot {x:Rat} (hx:Sz KB x) {n d a b:Nat} (h:RootB x n d a b) {t:Bool} (ht:decide (Rat.divInt a b*Rat.divInt a b=x)=t):Spec Tryz.prog :=
 Spec.auto Tryz.call362 [rV 0] [ratT x] (.tup [.c (.b (.z 1 0)),.c (.b (.v (.bool t)))]) [ratT (Rat.divInt a b)]
  [nSign (x:=x) rfl,.eqv 9 (.bool (decide (x.num.sign<0))) (.bool false) (nat_sign h.hn),mkI,nNum x,fSqrt h.hn h.a1 h.a2 h.ln,mkI,nDenom x,fSqrt h.hd h.b1 h.b2 h.ld,mkR,fSetFrac h.b0 (Nat.le_trans h.sa (by decide)) (Nat.le_trans h.sb (by decide)),
   (sMulR ((sz_divInt h.b0 h.sa h.sb).mono (by decide)) ((sz_divInt h.b0 h.sa h.sb).mono (by decide))).e,nCmp (c:=cmpQ (Rat.divInt a b*Rat.divInt a b) x) (((sz_divInt h.b0 h.sa h.sb).mul (sz_divInt h.b0 h.sa h.sb)).mono (by decide)) hx rfl,.eqv 28 (.bool (cmpQ (Rat.divInt a b*Rat.divInt a b) x==0)) (.bool t) (cmp_root ht)]
  [] 800 Tryz.func362 hmA (by kernel_rfl) (fun β=>by kernel_rfl)
theorem realG_ok {x:Rat} (β:Env) (w:World) (hh:∀ (k:Nat) (t:Thing),([ratT x]:List Thing)[k]?=some t→t.D w (β k)) :
  Calls Tryz.prog 359 (([rV 0]:List SV).map (SV.den β)).toArray w fun e w'=>∃ xs:List Pl,freshS β w 1 xs∧e=.returned ((nV 1).den (extE β 1 xs))∧newHold w' (gM ⟨x,0⟩) xs∧Below w.heap.size w w':=by
 have h0:(ratT x).D w (β 0):=hh 0 _ rfl
 refine (spec_auto (args:=[rV 0]) (obs:=[ratT x]) (res:=.one (.a [.b (.z 0 0),.b (.v (.pointer none))])) (news:=[]) (evs:=[]) (Ns:=[]) (m:=100) Tryz.func359 hmA (fun β=>by kernel_rfl) (by kernel_rfl) β w hh).mono ?_
 rintro e w' ⟨xs,_,rfl,h2,h3⟩
 obtain rfl:xs=[]:=by cases xs with | nil=>rfl | cons a l=>exact h2.elim
 refine ⟨[β 0,nilPl],fun y hy c hc=>?_,?_,⟨(ratT x).imp w' _ ((ratT x).st.below w w' _ h0 h3),nil_or (x:=0) (decide_eq_true rfl) w',trivial⟩,h3⟩
 · rcases List.mem_cons.1 hy with rfl | hy
   · exact .inr ⟨0,by show 0<1; decide,hc⟩
   · obtain rfl:=List.mem_singleton.1 hy
     exact absurd hc id
 · have e1:=extE_in (β:=β) (n:=1) (i:=0) (xs:=[β 0,nilPl]) rfl
   have e2:=extE_in (β:=β) (n:=1) (i:=1) (xs:=[β 0,nilPl]) rfl
   have e1:extE β 1 [β 0,nilPl] 1=β 0:=e1
   have e2:extE β 1 [β 0,nilPl] 2=nilPl:=e2
   rw [extE_nil]
   simp [SV.den,SC.den,Lf.den,Lf0.den,e1,e2]
   rfl
def sERealG (x:Rat):Spec Tryz.prog :=
 ⟨359,Tryz.call359,[rV 0],[ratT x],nV 1,gM ⟨x,0⟩,realG_ok,by kernel_rfl⟩
abbrev rg (x:Rat):GQ:=⟨x,0⟩
def wy0 (f:RQ):GQ:=gadd (rg f.b.re) (gmul (rg f.b.im) (gint 0 1))
def wayQ (f:RQ):GQ:=gconj (wy0 f)
def cenQ (f:RQ):GQ:=gscale (gneg (gconj (wy0 f))) (f.a)⁻¹
abbrev KI:Nat:=300
theorem rg_sz {k:Nat} {x:Rat} (h:Sz k x) (hk:1≤k):GSz k (rg x):=⟨h,sz_zero.mono hk⟩
theorem gi_sz:GSz 1 (gint 0 1):=GSz.int (by decide) (by decide)
section
variable {f:RQ} (hf:RSz KI f)
include hf in
theorem wym_sz:GSz 603 (gmul (rg f.b.im) (gint 0 1)):=((rg_sz hf.b.2 (by decide)).mul gi_sz).mono (by decide)
include hf in
theorem wy0_sz:GSz 904 (wy0 f):=((rg_sz hf.b.1 (by decide)).add (wym_sz hf)).mono (by decide)
include hf in
theorem wayQ_sz:GSz 904 (wayQ f):=(wy0_sz hf).conj
include hf in
theorem cenQ_sz (h0:f.a≠0):GSz 1204 (cenQ f):=((wy0_sz hf).conj.neg.scale (hf.a.inv h0)).mono (by decide)
noncomputable def wyE:List (Ev Tryz.prog):=[(sERealG f.b.re).e,(sERealG f.b.im).e,(sInt 0 1 (by decide) (by decide)).e,(sMul ((rg_sz hf.b.2 (by decide)).mono (by decide)) (gi_sz.mono (by decide))).e,(sAdd ((rg_sz hf.b.1 (by decide)).mono (by decide)) ((wym_sz hf).mono (by decide))).e]
noncomputable def sWay:Spec Tryz.prog :=
 Spec.auto Tryz.call360 [rgV 0] (rgT f) (nV 4) (gT (wayQ f)) (wyE hf++[(sConj (wy0 f)).e]) [(1,10)] 800 Tryz.func360 hmA (by kernel_rfl) (fun β=>by kernel_rfl)
noncomputable def sCentre (h0:f.a≠0):Spec Tryz.prog :=
 Spec.auto Tryz.call356 [rgV 0] (rgT f) (nV 4) (gT (cenQ f))
  (wyE hf++[(sConj (wy0 f)).e,(sNeg (gconj (wy0 f))).e,mkR,fInv (hf.a.mono (by decide)) h0,(sScale ((wy0_sz hf).conj.neg.mono (by decide)) ((hf.a.inv h0).mono (by decide))).e])
  [(1,10),(2,8)] 800 Tryz.func356 hmA (by kernel_rfl) (fun β=>by kernel_rfl)
end
abbrev i21:Rat:=Rat.divInt 2 1
abbrev i41:Rat:=Rat.divInt 4 1
def cuP (l k:RQ):GQ:=gmul (cenQ k) (gconj (wayQ l))
def cuV (l k:RQ):Rat:=(cuP l k).re*i21+l.c
def cuN (l:RQ):Rat:=gnorm (wayQ l)
def cuF (l k:RQ):GQ:=gsub (cenQ k) (gscale (wayQ l) (cuV l k/(cuN l*i21)))
def cuR (k:RQ):Rat:=fpr k k/(k.a*k.a)
def cuX (l k:RQ):Rat:=(cuR k-cuV l k*cuV l k/(cuN l*i41))/cuN l
def cuB (l:RQ) (t:Rat):GQ:=gscale (gmul (wayQ l) (gint 0 1)) t
section
variable {l k:RQ} (hl:RSz KI l) (hk:RSz KI k) (h0:k.a≠0) (hn:cuN l≠0)
theorem i41_sz:Sz 1 i41:=Sz.small (by decide)
theorem i21_sz:Sz 1 i21:=Sz.small (by decide)
theorem i21_ne:i21≠0:=n2_ne
theorem i41_ne:i41≠0:=of_decide_eq_true (by kernel_rfl:decide (i41≠0)=true)
theorem mul_ne {x y:Rat} (hx:x≠0) (hy:y≠0):x*y≠0:=fun h=>(Rat.mul_eq_zero.1 h).elim hx hy
include hl hk h0 in
theorem cuP_sz:GSz 5000 (cuP l k):=((cenQ_sz hk h0).mul (wayQ_sz hl).conj).mono (by decide)
include hl hk h0 in
theorem cuV_sz:Sz 5400 (cuV l k):=(((cuP_sz hl hk h0).1.mul i21_sz).add hl.c).mono (by decide)
include hl in
theorem cuN_sz:Sz 3700 (cuN l):=(wayQ_sz hl).norm.mono (by decide)
include hl hk h0 hn in
theorem cuQ_sz:Sz 9200 (cuV l k/(cuN l*i21)):=(div_sz (cuV_sz hl hk h0) ((cuN_sz hl).mul i21_sz) (mul_ne hn i21_ne)).mono (by decide)
include hl hk h0 hn in
theorem cuF_sz:GSz 12000 (cuF l k):=((cenQ_sz hk h0).sub ((wayQ_sz hl).scale (cuQ_sz hl hk h0 hn))).mono (by decide)
include hk h0 in
theorem cuR_sz:Sz 4000 (cuR k):=(div_sz (fpr_sz hk hk) (hk.a.mul hk.a) (mul_ne h0 h0)).mono (by decide)
include hl hk h0 hn in
theorem cuW_sz:Sz 14600 (cuV l k*cuV l k/(cuN l*i41)):=(div_sz ((cuV_sz hl hk h0).mul (cuV_sz hl hk h0)) ((cuN_sz hl).mul i41_sz) (mul_ne hn i41_ne)).mono (by decide)
include hl hk h0 hn in
theorem cuX_sz:Sz 22500 (cuX l k):=(div_sz ((cuR_sz hk h0).sub (cuW_sz hl hk h0 hn)) (cuN_sz hl) hn).mono (by decide)
noncomputable def cutE:List (Ev Tryz.prog) :=
 [(sCentre hk h0).e,(sWay hl).e,(sConj (wayQ l)).e,(sMul ((cenQ_sz hk h0).mono (by decide)) ((wayQ_sz hl).conj.mono (by decide))).e,(sParts (cuP l k)).e,
  (sMtNum 2).e,(sMtMul ((cuP_sz hl hk h0).1.mono (by decide)) (i21_sz.mono (by decide))).e,(sMtAdd (((cuP_sz hl hk h0).1.mul i21_sz).mono (by decide)) (hl.c.mono (by decide))).e,(sNorm ((wayQ_sz hl).mono (by decide))).e,
  (sMtNum 2).e,(sMtMul ((cuN_sz hl).mono (by decide)) (i21_sz.mono (by decide))).e,(sMtQuo ((cuV_sz hl hk h0).mono (by decide)) (((cuN_sz hl).mul i21_sz).mono (by decide)) (mul_ne hn i21_ne)).e,(sScale ((wayQ_sz hl).mono (by decide)) ((cuQ_sz hl hk h0 hn).mono (by decide))).e,
  (sSub ((cenQ_sz hk h0).mono (by decide)) (((wayQ_sz hl).scale (cuQ_sz hl hk h0 hn)).mono (by decide))).e,
  (sMtProd (hk.mono (by decide)) (hk.mono (by decide))).e,(sMtMul (hk.a.mono (by decide)) (hk.a.mono (by decide))).e,(sMtQuo ((fpr_sz hk hk).mono (by decide)) ((hk.a.mul hk.a).mono (by decide)) (mul_ne h0 h0)).e,
  (sMtMul ((cuV_sz hl hk h0).mono (by decide)) ((cuV_sz hl hk h0).mono (by decide))).e,(sMtNum 4).e,(sMtMul ((cuN_sz hl).mono (by decide)) (i41_sz.mono (by decide))).e,(sMtQuo (((cuV_sz hl hk h0).mul (cuV_sz hl hk h0)).mono (by decide)) (((cuN_sz hl).mul i41_sz).mono (by decide)) (mul_ne hn i41_ne)).e,
  (sMtSub ((cuR_sz hk h0).mono (by decide)) ((cuW_sz hl hk h0 hn).mono (by decide))).e,(sMtQuo (((cuR_sz hk h0).sub (cuW_sz hl hk h0 hn)).mono (by decide)) ((cuN_sz hl).mono (by decide)) hn).e]
abbrev cutNs:List (Nat × Nat):=[(1,6),(2,10),(3,7),(5,10),(6,10),(10,6),(11,11)]
noncomputable def sCutNo {n d a b:Nat} (h:RootB (cuX l k) n d a b) (ht:decide (Rat.divInt a b*Rat.divInt a b=cuX l k)=false):Spec Tryz.prog :=
 Spec.auto Tryz.call251 [rgV 0,rgV 4] (rgT l++rgT k) (.tup [.c (.b (.v (.slice none 0 0))),nI' 230]) []
  (cutE hl hk h0 hn++[(sERoot ((cuX_sz hl hk h0 hn).mono (by decide)) h ht).e]) cutNs 800 Tryz.func251 hmA (by kernel_rfl) (fun β=>by kernel_rfl)
end
structure RNew (P:Program) where
 f:FuncId
 en:Enters P f
 args:List SV
 src:Ob
 res:SV
 news:List Thing
 ok:∀ β w,src.holds β w (β 0)→Calls P f (args.map (SV.den β)).toArray w fun e w'=>∃ xs:List Pl,(∀ x∈xs,∀ c,x.F c→w.heap.size≤c)∧e=.returned (res.den (extE β 1 xs))∧newHold w' news xs∧Below w.heap.size w w'
 cl:(src.of (fun _=>false)&&(args.all (SV.of fun k=>Nat.beq k 0)&&res.of fun k=>Nat.ble 1 k&&Nat.blt k (1+news.length)))=true
def RNew.e {P:Program} (S:RNew P):Ev P:=.dyn (fun o _ _=>isCallB o) fun _ xs ob=>lit (bkOfR xs) fun i=>lit ob.length fun n =>
 .call S.f S.en (fun β=>(S.args.map (SV.den fun _=>β i)).toArray) [(i,S.src)] n (S.res.ren fun k=>n+(k-1)) S.news (fun β w h=>by
  have hc:=S.cl
  simp only [Bool.and_eq_true] at hc
  obtain ⟨c1,c2,c3⟩:=hc
  have h1:S.src.holds β w (β i):=h _ (List.mem_singleton.2 rfl)
  refine (S.ok (fun _=>β i) w (Ob.holds_congr (q:=fun _=>false) (fun k hk=>by cases hk) _ c1 h1)).mono fun e w' ⟨xs,k1,k2,k3,k4⟩=>⟨xs,fun x hx c hc=>.inl (k1 x hx c hc),?_,k3,k4⟩
  rw [k2,SV.den_ren]
  congr 1
  refine SV.den_congr (fun k hk=>?_) _ c3
  have hlen:=(newHold_get k3).1
  rw [Bool.and_eq_true,Nat.ble_eq,Nat.blt_eq] at hk
  have h5:k-1<xs.length:=by omega
  rw [extE_in (List.getElem?_eq_getElem h5)]
  have:=extE_in (β:=fun _=>β i) (n:=1) (List.getElem?_eq_getElem h5)
  rw [show 1+(k-1)=k by omega] at this
  exact this)
abbrev PSL:TypeId:=91
theorem slice3_run (w:World) (b:Nat) (c:Nat) (hc:2≤c) :
  (Instr.sliceAt PSL (.slice (some ⟨b,0,none⟩) 2 c) none (some (.int .i64 2)) (some (.int .i64 2))).run Tryz.prog w=.ok (.slice (some ⟨b,0,none⟩) 2 2) w:=by
 rw [run_sliceAt_slice w PSL _ _ _ _ (by kernel_rfl),run_slice_any w PSL _ _ _ (by kernel_rfl)]
 have hz:(sizeOf (Tryz.prog.elem PSL)).run Tryz.prog w=.ok 9 w:=by kernel_rfl
 have h1:(2:Int)≤(c:Int):=by omega
 simp [Instr.sliceBounds,run_sliceBound_if,h1,hz,Result.andThen,sliced,Addr.add]
def rdS3 (cs:List Lf):Ev Tryz.prog:=.rd 22 (.slice PSL (.tmp 17) none (some (.tmp 19)) (some (.tmp 21))) (fun β=>[.slice (some ⟨(β 1).b,0,none⟩) 2 ((β 1).c 0),.int .i64 2,.int .i64 2]) [(1,.row cs PTT 2 9)] 0 (.one (.c (.b (.s 1 0 2 2)))) [] (fun β w h ρ op ho hx=>by
 have h1:(Ob.row cs PTT 2 9).holds β w (β 1):=h _ (List.mem_singleton.2 rfl)
 obtain ⟨_,cur,_,_,h2,_⟩:=h1
 have h3:ρ (.tmp 17)=.slice (some ⟨(β 1).b,0,none⟩) 2 ((β 1).c 0)∧ρ (.tmp 19)=.int .i64 2∧ρ (.tmp 21)=.int .i64 2:=by simpa [Op.operands] using hx
 refine ⟨[],w,(fun _ h=>by cases h),?_,trivial,Below.refl _ _⟩
 rw [extE_nil]
 unfold execOp
 rw [ho]
 simp only [h3.1,h3.2.1,h3.2.2,Option.map_some,Option.map_none]
 simp [slice3_run w _ _ h2,Result.andThen]
 rfl)
def asS3:Ev Tryz.prog:=.rd 2 (.assign (.tmp 22)) (fun β=>[.slice (some ⟨(β 1).b,0,none⟩) 2 2]) [] 0 (.one (.c (.b (.s 1 0 2 2)))) [] (fun β w _ ρ op ho hx=>by
 refine ⟨[],w,(fun _ h=>by cases h),?_,trivial,Below.refl _ _⟩
 have h1:ρ (.tmp 22)=.slice (some ⟨(β 1).b,0,none⟩) 2 2:=by simpa [Op.operands] using hx
 rw [extE_nil]
 unfold execOp
 rw [ho]
 simp only [h1]
 rfl)
def cdOf:List Lf→List Cd
 | []=>[]
 | .b (.v x)::l=>.v x::cdOf l
 | _::l=>.v undef::cdOf l
abbrev pt2 (p q:Pt):List Cd:=cdOf (pw p++pw q)
theorem ptB_swap {p q:Pt} {r:Bool} (h:ptB p q=r):ptB q p=r:=by
 rw [← h,Bool.eq_iff_iff,ptB_iff,ptB_iff]
 exact ⟨Eq.symm,Eq.symm⟩
noncomputable def srE {p q:Pt} (hp:FitP p) (hq:FitP q) (hne:ptB q p=false) {b:Bool} (h:decide (ordI q p<0)=b):List (Ev Tryz.prog):=[(sPCheck2 hp hq).e,(sPClone p q).e]++(match b,h with
 | false,h=>[(sSortNo hp hq h).e,(sCompact2 hne).e,rdS3 (pw p++pw q),asS3]
 | true,h=>[(sSortYes hp hq h).e,(sCompact2 (p:=q) (q:=p) (ptB_swap hne)).e,rdS3 (pw q++pw p),asS3])
theorem sort_row {a b:Pt} {w:World} {β:Env} {evs:List (Ev Tryz.prog)} {src:Ob} (h:∀ β,(allS Tryz.prog Tryz.f252 [r2V] [src] evs [] 800 (.tup [.c (.b (.s 1 0 2 2)),nI' 0]) [(1,.row (pw a++pw b) PTT 2 9)] β).map Prod.fst=(allS Tryz.prog Tryz.f252 [r2V] [src] evs [] 800 (.tup [.c (.b (.s 1 0 2 2)),nI' 0]) [(1,.row (pw a++pw b) PTT 2 9)] β).map Prod.snd)
  (hB:([src].all fun x=>x.of (fun k=>Nat.blt k 1)&&x.own)=true) (hh:src.holds β w (β 0)) :
  Calls Tryz.prog 252 (([r2V]:List SV).map (SV.den β)).toArray w fun e u=>∃ xs:List Pl,(∀ x∈xs,∀ c,x.F c→w.heap.size≤c)∧e=.returned ((SV.tup [.c (.b (.y 1 18 2)),nI' 0]).den (extE β 1 xs))∧newHold u [rowT PTT (pt2 a b)] xs∧Below w.heap.size w u:=by
 refine (sxN (P:=Tryz.prog) [r2V] [src] evs [] 800 (.tup [.c (.b (.s 1 0 2 2)),nI' 0]) [(1,.row (pw a++pw b) PTT 2 9)] Tryz.func252 hmA (fun β=>ok_of_maps (h β)) (by kernel_rfl) hB β w (fun k o ho=>?_)).mono ?_
 · cases k with
   | zero=>simp only [List.getElem?_cons_zero] at ho; obtain rfl:=Option.some.inj ho; exact hh
   | succ k=>simp at ho
 · rintro e u ⟨β',q,obj,e1,rfl,_,e4,e5,g,hl⟩
   obtain ⟨hone,cur,hcur,hcl,hn,hcm,hsz,htake⟩:=e5 _ (List.mem_cons_self ..)
   have hb:=hl _ (List.mem_cons_self ..) rfl (Nat.le_refl 1)
   refine ⟨[⟨(β' 1).b,fun i=>match i with | 18=>some ⟨(β' 1).b,0,none⟩ | _=>none,fun _=>2,fun c=>c=(β' 1).b,fun _=>undef⟩],fun x hx c hc=>?_,rfl,⟨⟨⟨rfl,cur,hcur,?_⟩,⟨?_,rfl⟩,fun c hc=>?_⟩,trivial⟩,g.bel⟩
   · obtain rfl:=List.mem_singleton.1 hx
     obtain rfl:c=(β' 1).b:=hc
     exact hb
   · have:(pt2 a b).length=2*9:=rfl
     rw [this,htake]
     rfl
   · exact ⟨trivial,trivial,trivial,trivial,trivial,trivial,trivial,trivial,trivial,trivial,trivial,trivial,trivial,trivial,trivial,trivial,trivial,trivial,trivial⟩
   · obtain rfl:c=(β' 1).b:=hc
     exact heap_lt hcur
noncomputable def sSortP {p q:Pt} (hp:FitP p) (hq:FitP q) (hne:ptB q p=false) (h:decide (ordI q p<0)=true):RNew Tryz.prog :=
 ⟨252,Tryz.call252,[r2V],pr2 p q,.tup [.c (.b (.y 1 18 2)),nI' 0],[rowT PTT (pt2 q p)],fun β w hh=>sort_row (evs:=srE hp hq hne h) (fun β=>by kernel_rfl) (by kernel_rfl) hh,by kernel_rfl⟩
section
variable {l k:RQ} (hl:RSz KI l) (hk:RSz KI k) (h0:k.a≠0) (hn:cuN l≠0)
abbrev plC (z:GQ):List Cd:=[.v (.bool false),.r z.re,.r z.im]
def cutO (z w:GQ):List (Nat × Ob):=[(55,.box [.b (.v (.bool false)),.b (.z 51 0),.b (.z 52 0),.b (.v (.bool false)),.b (.z 53 0),.b (.z 54 0)] PLT),(51,(ratM z.re).ob),(52,(ratM z.im).ob),(53,(ratM w.re).ob),(54,(ratM w.im).ob)]
include hl in
theorem cub_sz {t:Rat} {j:Nat} (h:Sz j t):GSz (1811+j) (cuB l t):=((wayQ_sz hl).mul gi_sz).scale h
noncomputable def cutY {n d a b:Nat} (h:RootB (cuX l k) n d a b) (ht:decide (Rat.divInt a b*Rat.divInt a b=cuX l k)=true):List (Ev Tryz.prog) :=
 have hr:=sz_divInt h.b0 h.sa h.sb
 cutE hl hk h0 hn++[(sERoot ((cuX_sz hl hk h0 hn).mono (by decide)) h ht).e,(sInt 0 1 (by decide) (by decide)).e,(sMul ((wayQ_sz hl).mono (by decide)) (gi_sz.mono (by decide))).e,(sScale (((wayQ_sz hl).mul gi_sz).mono (by decide)) (hr.mono (by decide))).e,
  (sAdd ((cuF_sz hl hk h0 hn).mono (by decide)) ((cub_sz hl hr).mono (by decide))).e,(sSub ((cuF_sz hl hk h0 hn).mono (by decide)) ((cub_sz hl hr).mono (by decide))).e]
theorem cut_eqs {n d a b:Nat} (h:RootB (cuX l k) n d a b) (ht:decide (Rat.divInt a b*Rat.divInt a b=cuX l k)=true) (β:Env) :
  (allS Tryz.prog Tryz.f251 [rgV 0,rgV 4] ((rgT l++rgT k).map Thing.ob) (cutY hl hk h0 hn h ht) cutNs 800 (.tup [.c (.b (.s 55 0 2 2)),nI' 0]) (cutO (gadd (cuF l k) (cuB l (Rat.divInt a b))) (gsub (cuF l k) (cuB l (Rat.divInt a b)))) β).map Prod.fst=(allS Tryz.prog Tryz.f251 [rgV 0,rgV 4] ((rgT l++rgT k).map Thing.ob) (cutY hl hk h0 hn h ht) cutNs 800 (.tup [.c (.b (.s 55 0 2 2)),nI' 0]) (cutO (gadd (cuF l k) (cuB l (Rat.divInt a b))) (gsub (cuF l k) (cuB l (Rat.divInt a b)))) β).map Prod.snd:=by kernel_rfl
end
theorem cut_row {l k:RQ} {z z':GQ} {evs:List (Ev Tryz.prog)} (h:∀ β,(allS Tryz.prog Tryz.f251 [rgV 0,rgV 4] ((rgT l++rgT k).map Thing.ob) evs cutNs 800 (.tup [.c (.b (.s 55 0 2 2)),nI' 0]) (cutO z z') β).map Prod.fst=(allS Tryz.prog Tryz.f251 [rgV 0,rgV 4] ((rgT l++rgT k).map Thing.ob) evs cutNs 800 (.tup [.c (.b (.s 55 0 2 2)),nI' 0]) (cutO z z') β).map Prod.snd)
  (β:Env) (w:World) (hh:∀ (i:Nat) (t:Thing),(rgT l++rgT k)[i]?=some t→t.D w (β i)) :
  Calls Tryz.prog 251 (([rgV 0,rgV 4]:List SV).map (SV.den β)).toArray w fun e u=>∃ xs:List Pl,freshS β w 8 xs∧e=.returned ((SV.tup [.c (.b (.y 8 6 2)),nI' 0]).den (extE β 8 xs))∧newHold u [rowT PLT (plC z++plC z')] xs∧Below w.heap.size w u:=by
 refine (sx (P:=Tryz.prog) [rgV 0,rgV 4] ((rgT l++rgT k).map Thing.ob) evs cutNs 800 (.tup [.c (.b (.s 55 0 2 2)),nI' 0]) (cutO z z') Tryz.func251 hmA (fun β=>ok_of_maps (h β)) (by kernel_rfl) (by kernel_rfl) β w (fun i o ho=>?_)).mono ?_
 · rw [List.getElem?_map] at ho
   cases hx:(rgT l++rgT k)[i]? with
   | none=>rw [hx] at ho; cases ho
   | some t=>rw [hx] at ho; obtain rfl:=Option.some.inj ho; exact hh i t hx
 · rintro e u ⟨β',q',obj,e1,rfl,e2,e4,e5,g⟩
   have hor:∀ (i:Nat) (x:Rat),(i,(ratM x).ob)∈cutO z z'→OR0 x u (β' i):=fun i x hi=>e5 _ hi
   have o1:=hor 51 z.re (by simp [cutO])
   have o2:=hor 52 z.im (by simp [cutO])
   have o3:=hor 53 z'.re (by simp [cutO])
   have o4:=hor 54 z'.im (by simp [cutO])
   obtain ⟨hone,hcur⟩:=e5 _ (List.mem_cons_self ..)
   dsimp only at hone hcur
   refine ⟨[⟨(β' 55).b,fun i=>match i with | 1=>(β' 51).v 0 | 2=>(β' 52).v 0 | 4=>(β' 53).v 0 | 5=>(β' 54).v 0 | 6=>some ⟨(β' 55).b,0,none⟩ | _=>none,fun _=>2,fun c=>c=(β' 55).b∨(β' 51).F c∨(β' 52).F c∨(β' 53).F c∨(β' 54).F c,fun _=>undef⟩],fun x hx c hc=>?_,rfl,⟨⟨⟨.inl rfl,_,hcur,rfl⟩,⟨⟨trivial,or_cd o1 rfl fun c hc=>.inr (.inl hc),or_cd o2 rfl fun c hc=>.inr (.inr (.inl hc)),trivial,or_cd o3 rfl fun c hc=>.inr (.inr (.inr (.inl hc))),or_cd o4 rfl fun c hc=>.inr (.inr (.inr (.inr (hc)))),trivial⟩,rfl⟩,fun c hc=>?_⟩,trivial⟩,g.bel⟩
   · obtain rfl:=List.mem_singleton.1 hx
     have h4:∀ p∈cutO z z',∀ c,(β' p.1).F c→w.heap.size≤c∨∃ i,i<8∧(β i).F c:=e4
     rcases hc with rfl | hc | hc | hc | hc
     · exact h4 _ (List.mem_cons_self ..) _ ((hone.1 _).2 rfl)
     · exact h4 (51,(ratM z.re).ob) (by simp [cutO]) c hc
     · exact h4 (52,(ratM z.im).ob) (by simp [cutO]) c hc
     · exact h4 (53,(ratM z'.re).ob) (by simp [cutO]) c hc
     · exact h4 (54,(ratM z'.im).ob) (by simp [cutO]) c hc
   · rcases hc with rfl | hc | hc | hc | hc
     · exact heap_lt hcur
     · exact (or_stable _).lt u _ o1 c hc
     · exact (or_stable _).lt u _ o2 c hc
     · exact (or_stable _).lt u _ o3 c hc
     · exact (or_stable _).lt u _ o4 c hc
noncomputable def sCutYes {l k:RQ} (hl:RSz KI l) (hk:RSz KI k) (h0:k.a≠0) (hn:cuN l≠0) {n d a b:Nat} (h:RootB (cuX l k) n d a b) (ht:decide (Rat.divInt a b*Rat.divInt a b=cuX l k)=true):Spec Tryz.prog :=
 ⟨251,Tryz.call251,[rgV 0,rgV 4],rgT l++rgT k,.tup [.c (.b (.y 8 6 2)),nI' 0],[rowT PLT (plC (gadd (cuF l k) (cuB l (Rat.divInt a b)))++plC (gsub (cuF l k) (cuB l (Rat.divInt a b))))],cut_row (cut_eqs hl hk h0 hn h ht),by kernel_rfl⟩
end Go.Proofs.YtpccljaooghafaaGreat.Y
end
