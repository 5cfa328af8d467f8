/- MpR, MpS, MtP, MpP, MpL, MpW, MvO, MwM, MwN, MwB, MwC, MvP, MvS, MvV, MwD, MwE. -/
import Derived.Test.YtpccljaooghafaaGreatQk14
set_option linter.unnecessarySimpa false
set_option linter.unusedVariables false
set_option linter.unusedSimpArgs false
section
namespace Go.Proofs.YtpccljaooghafaaGreat.Y
open Go Go.RowKit
set_option maxRecDepth 100000
structure OwnSp (P:Program) where
 f:FuncId
 en:Enters P f
 args:List SV
 row:Ob
 res:SV
 ok:∀ β w,Calls P f (args.map (SV.den β)).toArray w fun e w'=>∃ g:Pl,w.heap.size≤g.b∧e=.returned (res.den (fun _=>g))∧row.holds (fun _=>g) w' g∧Below w.heap.size w w'
 cl:(row.of (fun _=>false)&&(args.all (SV.of fun _=>false)&&res.of fun k=>Nat.beq k 0))=true
def OwnSp.e {P:Program} (S:OwnSp P):Ev P:=.dyn (fun o _ _=>isCallB o) fun _ xs ob=>lit ob.length fun n =>
 .own S.f S.en (fun β=>(S.args.map (SV.den β)).toArray) [] n S.row (S.res.ren fun _=>n) [] (fun β w _=>by
  have hc:=S.cl
  simp only [Bool.and_eq_true] at hc
  obtain ⟨c2,c3,c4⟩:=hc
  refine (S.ok β w).mono ?_
  rintro e w' ⟨g,k1,rfl,k3,k4⟩
  have hg:extE β n [g] n=g:=extE_in (i:=0) (xs:=[g]) rfl
  refine ⟨g,[],⟨k1,(fun _ h=>by cases h),(fun _ h=>by cases h)⟩,?_,Ob.holds_congr (q:=fun _=>false) (fun k hk=>by cases hk) _ c2 k3,trivial,k4⟩
  rw [SV.den_ren]
  congr 1
  exact SV.den_congr (q:=fun k=>Nat.beq k 0) (fun k _=>hg.symm) _ c4)
theorem own_ok {P:Program} {f:FuncId} {fn:Func} {args:List SV} {row:Ob} {res:SV} {K:Nat} (evs:List (Ev P)) (Ns:List (Nat × Nat)) (m:Nat) (hf:P.funcs[f]?=some fn) (hm:P.follows .mixedOrders=true)
  (h:∀ β,(allS P fn args [] evs Ns m (res.ren fun _=>K) [(K,row)] β).map Prod.fst=(allS P fn args [] evs Ns m (res.ren fun _=>K) [(K,row)] β).map Prod.snd)
  (hB:args.all (SV.of fun k=>Nat.blt k 0)=true) (hl:row.layOf.isSome=true) (hr:row.of (fun _=>false)=true) (hres:(res.of fun k=>Nat.beq k 0)=true) (β:Env) (w:World) :
  Calls P f (args.map (SV.den β)).toArray w fun e w'=>∃ g:Pl,w.heap.size≤g.b∧e=.returned (res.den (fun _=>g))∧row.holds (fun _=>g) w' g∧Below w.heap.size w w':=by
 refine (sxN (P:=P) args [] evs Ns m (res.ren fun _=>K) [(K,row)] hf hm (fun β=>ok_of_maps (h β)) hB rfl β w (fun k o ho=>by simp at ho)).mono ?_
 rintro e u ⟨β',q,obj,e1,rfl,_,e4,e5,g,hl2⟩
 refine ⟨β' K,hl2 _ (List.mem_cons_self ..) hl (Nat.zero_le _),?_,Ob.holds_congr (q:=fun _=>false) (fun k hk=>by cases hk) _ hr (e5 _ (List.mem_cons_self ..)),g.bel⟩
 rw [SV.den_ren]
abbrev KP:Nat:=100000
abbrev rpA (f g:RQ):List SV:=[frS f,frS g]
theorem sort_own {a b:Pt} {w:World} {β:Env} {evs:List (Ev Tryz.prog)} {src:Ob} (h:∀ β,(allS Tryz.prog Tryz.f252 [r2V] [src] evs [] 800 (.tup [.c (.b (.s 1 0 2 2)),nI' 0]) [(1,.row (pw a++pw b) PTT 2 9)] β).map Prod.fst=(allS Tryz.prog Tryz.f252 [r2V] [src] evs [] 800 (.tup [.c (.b (.s 1 0 2 2)),nI' 0]) [(1,.row (pw a++pw b) PTT 2 9)] β).map Prod.snd)
  (hB:([src].all fun x=>x.of (fun k=>Nat.blt k 1)&&x.own)=true) (hh:src.holds β w (β 0)) :
  Calls Tryz.prog 252 (([r2V]:List SV).map (SV.den β)).toArray w fun e u=>∃ g:Pl,w.heap.size≤g.b∧e=.returned ((SV.tup [.c (.b (.s 0 0 2 2)),nI' 0]).den (fun _=>g))∧(pr2 a b).holds (fun _=>g) u g∧Below w.heap.size w u:=by
 refine (sxN (P:=Tryz.prog) [r2V] [src] evs [] 800 (.tup [.c (.b (.s 1 0 2 2)),nI' 0]) [(1,.row (pw a++pw b) PTT 2 9)] Tryz.func252 hmA (fun β=>ok_of_maps (h β)) (by kernel_rfl) hB β w (fun k o ho=>?_)).mono ?_
 · cases k with
   | zero=>simp only [List.getElem?_cons_zero] at ho; obtain rfl:=Option.some.inj ho; exact hh
   | succ k=>simp at ho
 · rintro e u ⟨β',q,obj,e1,rfl,_,e4,e5,g,hl⟩
   have h5:=e5 _ (List.mem_cons_self ..)
   exact ⟨β' 1,hl _ (List.mem_cons_self ..) rfl (Nat.le_refl 1),rfl,Ob.holds_congr (q:=fun _=>false) (fun k hk=>by cases hk) _ (by kernel_rfl) h5,g.bel⟩
noncomputable def sSortP2 {p q:Pt} (hp:FitP p) (hq:FitP q) (hne:ptB q p=false) (h:decide (ordI q p<0)=true):RRow Tryz.prog :=
 ⟨252,Tryz.call252,[r2V],pr2 p q,pr2 q p,.tup [.c (.b (.s 0 0 2 2)),nI' 0],fun β w hh=>sort_own (evs:=srE hp hq hne h) (fun β=>by kernel_rfl) (by kernel_rfl) hh,by kernel_rfl⟩
noncomputable def sSortQ2 {p q:Pt} (hp:FitP p) (hq:FitP q) (hne:ptB q p=false) (h:decide (ordI q p<0)=false):RRow Tryz.prog :=
 ⟨252,Tryz.call252,[r2V],pr2 p q,pr2 p q,.tup [.c (.b (.s 0 0 2 2)),nI' 0],fun β w hh=>sort_own (evs:=srE hp hq hne h) (fun β=>by kernel_rfl) (by kernel_rfl) hh,by kernel_rfl⟩
abbrev pr1 (p:Pt):Ob:=.row (pw p) PTT 1 9
abbrev r1V:SV:=.one (.c (.b (.r 0 1)))
section
variable {p:Pt} (hp:FitP p)
noncomputable def sPIdx1:RSpec Tryz.prog :=
 RSpec.auto Tryz.call340 [r1V,fvV 325] (pr1 p) (.one (svI (-1))) [(sChk1 hp).e] [] 800 Tryz.func340 hmA (by kernel_rfl) (by kernel_rfl) (by kernel_rfl) (fun β=>by kernel_rfl)
noncomputable def sPHas1:RSpec Tryz.prog :=
 RSpec.auto Tryz.call219 [r1V,fvV 325] (pr1 p) (.one (.c (.b (.v (.bool false))))) [(sPIdx1 hp).e] [] 400 Tryz.func219 hmA (by kernel_rfl) (by kernel_rfl) (by kernel_rfl) (fun β=>by kernel_rfl)
noncomputable def sPCheck1:RSpec Tryz.prog :=
 RSpec.auto Tryz.call166 [r1V] (pr1 p) (.one (svI 0)) [(sPHas1 hp).e] [] 400 Tryz.func166 hmA (by kernel_rfl) (by kernel_rfl) (by kernel_rfl) (fun β=>by kernel_rfl)
end
noncomputable def sPClone1 (p:Pt):RRow Tryz.prog :=
 ⟨363,Tryz.call363,[r1V],pr1 p,pr1 p,r1V,
  rrow_ok (N:=2) [.app appPt,.app appPt] [] 400 Tryz.func363 hmA (fun β=>by kernel_rfl) (by kernel_rfl) (by kernel_rfl) (by kernel_rfl),by kernel_rfl⟩
def sLen641:Spec Tryz.prog :=
 Spec.auto Tryz.call427 [.one (.c (.b (.v (.int .u64 1))))] [] (.one (svI 1)) [] [] [] 400 Tryz.func427 hmA (by kernel_rfl) (fun β=>by kernel_rfl)
def sBits1:Spec Tryz.prog :=
 Spec.auto Tryz.call406 [.one (.c (.b (.v (.int .u64 1))))] [] (.one (svI 1)) [] [sLen641.e] [] 400 Tryz.func406 hmA (by kernel_rfl) (fun β=>by kernel_rfl)
noncomputable def sIns1 (p:Pt):MSpec Tryz.prog :=
 ⟨418,Tryz.call418,[r1V,.one (svI 0),.one (svI 1),fvV 167],[],pr1 p,pr1 p,.tup [],[],
  mrow_ok [] [(4,17),(6,1015016)] 800 Tryz.func418 hmA (fun β=>by kernel_rfl) (by kernel_rfl) (by kernel_rfl),by kernel_rfl⟩
noncomputable def sPdq1 (p:Pt):MSpec Tryz.prog :=
 ⟨405,Tryz.call405,[r1V,.one (svI 0),.one (svI 1),.one (svI 1),fvV 167],[],pr1 p,pr1 p,.tup [],[],
  mrow_ok [(sIns1 p).e] [(17,17)] 800 Tryz.func405 hmA (fun β=>by kernel_rfl) (by kernel_rfl) (by kernel_rfl),by kernel_rfl⟩
noncomputable def sSort1 (p:Pt):MSpec Tryz.prog :=
 ⟨364,Tryz.call364,[r1V,fvV 167],[],pr1 p,pr1 p,.tup [],[],
  mrow_ok [sBits1.e,(sPdq1 p).e] [] 800 Tryz.func364 hmA (fun β=>by kernel_rfl) (by kernel_rfl) (by kernel_rfl),by kernel_rfl⟩
noncomputable def sCompact1 (p:Pt):RSpec Tryz.prog :=
 RSpec.auto Tryz.call365 [r1V] (pr1 p) r1V [] [(6,10)] 400 Tryz.func365 hmA (by kernel_rfl) (by kernel_rfl) (by kernel_rfl) (fun β=>by kernel_rfl)
theorem slice1_run (w:World) (b:Nat) (c:Nat) (hc:1≤c) :
  (Instr.sliceAt PSL (.slice (some ⟨b,0,none⟩) 1 c) none (some (.int .i64 1)) (some (.int .i64 1))).run Tryz.prog w=.ok (.slice (some ⟨b,0,none⟩) 1 1) w:=by
 rw [run_sliceAt_slice w PSL _ _ _ _ (by kernel_rfl),run_slice_any w PSL _ _ _ (by kernel_rfl)]
 have hz:(sizeOf (Tryz.prog.elem PSL)).run Tryz.prog w=.ok 9 w:=by kernel_rfl
 have h1:(1:Int)≤(c:Int):=by omega
 simp [Instr.sliceBounds,run_sliceBound_if,h1,hz,Result.andThen,sliced,Addr.add]
def rdS1 (cs:List Lf):Ev Tryz.prog:=.rd 22 (.slice PSL (.tmp 17) none (some (.tmp 19)) (some (.tmp 21))) (fun β=>[.slice (some ⟨(β 1).b,0,none⟩) 1 ((β 1).c 0),.int .i64 1,.int .i64 1]) [(1,.row cs PTT 1 9)] 0 (.one (.c (.b (.s 1 0 1 1)))) [] (fun β w h ρ op ho hx=>by
 have h1:(Ob.row cs PTT 1 9).holds β w (β 1):=h _ (List.mem_singleton.2 rfl)
 obtain ⟨_,cur,_,_,h2,_⟩:=h1
 have h3:ρ (.tmp 17)=.slice (some ⟨(β 1).b,0,none⟩) 1 ((β 1).c 0)∧ρ (.tmp 19)=.int .i64 1∧ρ (.tmp 21)=.int .i64 1:=by simpa [Op.operands] using hx
 refine ⟨[],w,(fun _ h=>by cases h),?_,trivial,Below.refl _ _⟩
 rw [extE_nil]
 unfold execOp
 rw [ho]
 simp only [h3.1,h3.2.1,h3.2.2,Option.map_some,Option.map_none]
 simp [slice1_run w _ _ h2,Result.andThen]
 rfl)
theorem sort1_own {p:Pt} (hp:FitP p) (β:Env) (w:World) (hh:(pr1 p).holds β w (β 0)) :
  Calls Tryz.prog 252 (([r1V]:List SV).map (SV.den β)).toArray w fun e u=>∃ g:Pl,w.heap.size≤g.b∧e=.returned ((SV.tup [.c (.b (.s 0 0 1 1)),nI' 0]).den (fun _=>g))∧(pr1 p).holds (fun _=>g) u g∧Below w.heap.size w u:=by
 refine (sxN (P:=Tryz.prog) [r1V] [pr1 p] [(sPCheck1 hp).e,(sPClone1 p).e,(sSort1 p).e,(sCompact1 p).e,rdS1 (pw p)] [] 800 (.tup [.c (.b (.s 1 0 1 1)),nI' 0]) [(1,pr1 p)] Tryz.func252 hmA (fun β=>ok_of_maps (by kernel_rfl)) (by kernel_rfl) (by kernel_rfl) β w (fun k o ho=>?_)).mono ?_
 · cases k with
   | zero=>simp only [List.getElem?_cons_zero] at ho; obtain rfl:=Option.some.inj ho; exact hh
   | succ k=>simp at ho
 · rintro e u ⟨β',q,obj,e1,rfl,_,e4,e5,g,hl⟩
   have h5:=e5 _ (List.mem_cons_self ..)
   exact ⟨β' 1,hl _ (List.mem_cons_self ..) rfl (Nat.le_refl 1),rfl,Ob.holds_congr (q:=fun _=>false) (fun k hk=>by cases hk) _ (by kernel_rfl) h5,g.bel⟩
noncomputable def sSortOne {p:Pt} (hp:FitP p):RRow Tryz.prog :=
 ⟨252,Tryz.call252,[r1V],pr1 p,pr1 p,.tup [.c (.b (.s 0 0 1 1)),nI' 0],sort1_own hp,by kernel_rfl⟩
theorem c0_eq (z:GQ) (h:¬ FitG z):SV.tup [.a (lsX (paC (.fin z))),.c (.b (.v (.int .i64 (paK (.fin z)))))]=.tup [.a (.b (.v (.bool false))::g0C),nI' 4]:=by
 show SV.tup [.a (.b (.v (.bool false))::gaC z),.c (.b (.v (.int .i64 (gaK z))))]=_
 rw [(ga_not h).1,(ga_not h).2]
noncomputable def sToldNo {z:GQ} (h:¬ FitG z) (hz:GSz KB z):Spec Tryz.prog:=(sToldP (.fin z) hz).conv (.tup [.a (.b (.v (.bool false))::g0C),nI' 4]) (c0_eq z h)
abbrev ptNil (k:Int):SV:=.tup [.c (.b (.v (.slice none 0 0))),nI' k]
abbrev ptR2:SV:=.tup [.c (.b (.s 0 0 2 2)),nI' 0]
abbrev ptR1:SV:=.tup [.c (.b (.s 0 0 1 1)),nI' 0]
section
variable {f g:RQ} (hf:MayC f) (hg:MayC g) (sf:RSz 64 f) (sg:RSz 64 g)
noncomputable def ptL {s:Bool} {c:Int} (hs:eqRone f g=s) (hc:cmpQ (fsq f g) one1=c):List (Ev Tryz.prog):=[(sMLies hf hg hs hc).e,(sMtOf hf.fit).e,(sMtOf hg.fit).e]
noncomputable def sPtsSame {c:Int} (hs:eqRone f g=true) (hc:cmpQ (fsq f g) one1=c):Spec Tryz.prog :=
 Spec.auto Tryz.call105 (rpA f g) [] (ptNil 7) [] (ptL hf hg hs hc) [(2,6)] 1500 Tryz.func105 hmA (by kernel_rfl) (fun β=>by kernel_rfl)
noncomputable def sPtsApart (hs:eqRone f g=false) (hc:cmpQ (fsq f g) one1=1):Spec Tryz.prog :=
 Spec.auto Tryz.call105 (rpA f g) [] (ptNil 7) [] (ptL hf hg hs hc) [(2,6)] 1500 Tryz.func105 hmA (by kernel_rfl) (fun β=>by kernel_rfl)
section
variable (hs:eqRone f g=false) (hc:cmpQ (fsq f g) one1=0)
theorem fit_inf:FitP .inf:=trivial
noncomputable def oPtTInf (h:decide ((tcQ f g).a=0)=true):OwnSp Tryz.prog :=
 ⟨105,Tryz.call105,rpA f g,pr1 .inf,ptR1,own_ok (K:=18) (ptL hf hg hs hc++[(sTouchInf sf sg h).e,.app appP,(kToldP (p:=.inf) fit_inf).e,.app appPt,(sSortOne (p:=.inf) fit_inf).e]) [(2,6)] 1500 Tryz.func105 hmA (fun β=>by kernel_rfl) (by kernel_rfl) rfl (by kernel_rfl) (by kernel_rfl),by kernel_rfl⟩
noncomputable def oPtTFin (h:decide ((tcQ f g).a=0)=false) (ht:FitP (.fin (cenQ (tcQ f g)))):OwnSp Tryz.prog :=
 ⟨105,Tryz.call105,rpA f g,pr1 (.fin (cenQ (tcQ f g))),ptR1,own_ok (K:=20) (ptL hf hg hs hc++[(sTouchFin sf sg h).e,.app appP,(kToldP (p:=.fin (cenQ (tcQ f g))) ht).e,.app appPt,(sSortOne (p:=.fin (cenQ (tcQ f g))) ht).e]) [(2,6)] 1500 Tryz.func105 hmA (fun β=>by kernel_rfl) (by kernel_rfl) rfl (by kernel_rfl) (by kernel_rfl),by kernel_rfl⟩
noncomputable def sPtTNo (h:decide ((tcQ f g).a=0)=false) (ht:¬ FitG (cenQ (tcQ f g))):Spec Tryz.prog :=
 Spec.auto Tryz.call105 (rpA f g) [] (ptNil 4) [] (ptL hf hg hs hc++[(sTouchFin sf sg h).e,.app appP,(sToldNo ht ((cenJ (tc_pls sf sg) (of_decide_eq_false h)).mono (by decide))).e]) [(2,6)] 1500 Tryz.func105 hmA (by kernel_rfl) (fun β=>by kernel_rfl)
end
section
variable (hs:eqRone f g=false) (hc:cmpQ (fsq f g) one1 = -1)
noncomputable def ptLn (hA:axAt f g .both) (h0:lnD f g≠0):List (Ev Tryz.prog):=ptL hf hg hs hc++sgR 69 hA.1++sgR 74 hA.2++[(sLines sf sg h0).e,dIdxP PLT (plI (lnZ f g)),dPlace PLT (plI (lnZ f g))]
noncomputable def oPtLn (hA:axAt f g .both) (h0:lnD f g≠0) (ht:FitP (.fin (lnZ f g))):OwnSp Tryz.prog :=
 ⟨105,Tryz.call105,rpA f g,pr2 (.fin (lnZ f g)) .inf,ptR2,own_ok (K:=25) (ptLn hf hg sf sg hs hc hA h0++[(kToldP (p:=.fin (lnZ f g)) ht).e,.app appPt,dIdxP PLT (plI (lnZ f g)),dPlace PLT (plI (lnZ f g)),(kToldP (p:=.inf) fit_inf).e,.app appPt,(sSortQ2 (p:=.fin (lnZ f g)) (q:=.inf) ht fit_inf rfl rfl).e]) [(2,6)] 1500 Tryz.func105 hmA (fun β=>by kernel_rfl) (by kernel_rfl) rfl (by kernel_rfl) (by kernel_rfl),by kernel_rfl⟩
include sf sg in
theorem lnz_sz (h0:lnD f g≠0):GSz KB (lnZ f g):=((rgJ (lnV_sz sf sg h0 sf.b.2 sg.b.2)).add ((rgJ (lnV_sz sf sg h0 sf.b.1 sg.b.1)).mul gi_sz)).mono (by decide)
noncomputable def sPtLnNo (hA:axAt f g .both) (h0:lnD f g≠0) (ht:¬ FitG (lnZ f g)):Spec Tryz.prog :=
 Spec.auto Tryz.call105 (rpA f g) [] (ptNil 4) [] (ptLn hf hg sf sg hs hc hA h0++[(sToldNo ht (lnz_sz sf sg h0)).e]) [(2,6)] 1500 Tryz.func105 hmA (by kernel_rfl) (fun β=>by kernel_rfl)
abbrev ctP (l k:RQ) (t:Rat):GQ:=gadd (cuF l k) (cuB l t)
abbrev ctQ (l k:RQ) (t:Rat):GQ:=gsub (cuF l k) (cuB l t)
abbrev ctK (l k:RQ) (t:Rat):List Cd:=plC (ctP l k t)++plC (ctQ l k t)
theorem ct_sz {l k:RQ} (hl:RSz KI l) (hk:RSz KI k) (h0:k.a≠0) (hn:cuN l≠0) {t:Rat} {j:Nat} (h:Sz j t) (hj:j≤1000000):GSz KB (ctP l k t)∧GSz KB (ctQ l k t) :=
 ⟨((cuF_sz hl hk h0 hn).add (cub_sz hl h)).mono (Nat.le_trans (m:=12000+(1811+1000000)+1) (by omega) (by decide)),((cuF_sz hl hk h0 hn).sub (cub_sz hl h)).mono (Nat.le_trans (m:=12000+(1811+1000000)+1) (by omega) (by decide))⟩
noncomputable def sPtNoOne (hA:axAt f g .one) (hl:RSz KI f) (hk:RSz KI g) (h0:g.a≠0) (hn:cuN f≠0) {n d a b:Nat} (h:RootB (cuX f g) n d a b) (ht:decide (Rat.divInt a b*Rat.divInt a b=cuX f g)=false):Spec Tryz.prog :=
 Spec.auto Tryz.call105 (rpA f g) [] (ptNil 230) [] (ptL hf hg hs hc++sgR 69 hA.1++sgR 74 hA.2++[(sAxOne hA.1 hA.2).e]++sgR 37 hA.1++[(sCutNo hl hk h0 hn h ht).e]) [(2,6)] 1500 Tryz.func105 hmA (by kernel_rfl) (fun β=>by kernel_rfl)
noncomputable def sPtBigAOne (hA:axAt f g .one) (hl:RSz KI f) (hk:RSz KI g) (h0:g.a≠0) (hn:cuN f≠0) {n d a b:Nat} (h:RootB (cuX f g) n d a b) (ht:decide (Rat.divInt a b*Rat.divInt a b=cuX f g)=true) (hP:¬ FitG (ctP f g (Rat.divInt a b))) (hz:GSz KB (ctP f g (Rat.divInt a b))):Spec Tryz.prog :=
 Spec.auto Tryz.call105 (rpA f g) [] (ptNil 4) [] (ptL hf hg hs hc++sgR 69 hA.1++sgR 74 hA.2++[(sAxOne hA.1 hA.2).e]++sgR 37 hA.1++[(sCutYes hl hk h0 hn h ht).e,dIdxP PLT (ctK f g (Rat.divInt a b)),dPlace PLT (ctK f g (Rat.divInt a b)),(sToldNo hP hz).e]) [(2,6)] 1500 Tryz.func105 hmA (by kernel_rfl) (fun β=>by kernel_rfl)
noncomputable def sPtBigBOne (hA:axAt f g .one) (hl:RSz KI f) (hk:RSz KI g) (h0:g.a≠0) (hn:cuN f≠0) {n d a b:Nat} (h:RootB (cuX f g) n d a b) (ht:decide (Rat.divInt a b*Rat.divInt a b=cuX f g)=true) (hP:FitP (.fin (ctP f g (Rat.divInt a b)))) (hQ:¬ FitG (ctQ f g (Rat.divInt a b))) (hz:GSz KB (ctQ f g (Rat.divInt a b))):Spec Tryz.prog :=
 Spec.auto Tryz.call105 (rpA f g) [] (ptNil 4) [] (ptL hf hg hs hc++sgR 69 hA.1++sgR 74 hA.2++[(sAxOne hA.1 hA.2).e]++sgR 37 hA.1++[(sCutYes hl hk h0 hn h ht).e,dIdxP PLT (ctK f g (Rat.divInt a b)),dPlace PLT (ctK f g (Rat.divInt a b)),(kToldP hP).e,.app appPt,dIdxP PLT (ctK f g (Rat.divInt a b)),dPlace PLT (ctK f g (Rat.divInt a b)),(sToldNo hQ hz).e]) [(2,6)] 1500 Tryz.func105 hmA (by kernel_rfl) (fun β=>by kernel_rfl)
noncomputable def oPtOneSw (hA:axAt f g .one) (hl:RSz KI f) (hk:RSz KI g) (h0:g.a≠0) (hn:cuN f≠0) {n d a b:Nat} (h:RootB (cuX f g) n d a b) (ht:decide (Rat.divInt a b*Rat.divInt a b=cuX f g)=true) (hP:FitP (.fin (ctP f g (Rat.divInt a b)))) (hQ:FitP (.fin (ctQ f g (Rat.divInt a b)))) (hne:ptB (.fin (ctQ f g (Rat.divInt a b))) (.fin (ctP f g (Rat.divInt a b)))=false) (hb:decide (ordI (.fin (ctQ f g (Rat.divInt a b))) (.fin (ctP f g (Rat.divInt a b)))<0)=true):OwnSp Tryz.prog :=
 ⟨105,Tryz.call105,rpA f g,pr2 (.fin (ctQ f g (Rat.divInt a b))) (.fin (ctP f g (Rat.divInt a b))),ptR2,own_ok (K:=26) (ptL hf hg hs hc++sgR 69 hA.1++sgR 74 hA.2++[(sAxOne hA.1 hA.2).e]++sgR 37 hA.1++[(sCutYes hl hk h0 hn h ht).e,dIdxP PLT (ctK f g (Rat.divInt a b)),dPlace PLT (ctK f g (Rat.divInt a b)),(kToldP hP).e,.app appPt,dIdxP PLT (ctK f g (Rat.divInt a b)),dPlace PLT (ctK f g (Rat.divInt a b)),(kToldP hQ).e,.app appPt,(sSortP2 hP hQ hne hb).e]) [(2,6)] 1500 Tryz.func105 hmA (fun β=>by kernel_rfl) (by kernel_rfl) rfl (by kernel_rfl) (by kernel_rfl),by kernel_rfl⟩
noncomputable def oPtOneIn (hA:axAt f g .one) (hl:RSz KI f) (hk:RSz KI g) (h0:g.a≠0) (hn:cuN f≠0) {n d a b:Nat} (h:RootB (cuX f g) n d a b) (ht:decide (Rat.divInt a b*Rat.divInt a b=cuX f g)=true) (hP:FitP (.fin (ctP f g (Rat.divInt a b)))) (hQ:FitP (.fin (ctQ f g (Rat.divInt a b)))) (hne:ptB (.fin (ctQ f g (Rat.divInt a b))) (.fin (ctP f g (Rat.divInt a b)))=false) (hb:decide (ordI (.fin (ctQ f g (Rat.divInt a b))) (.fin (ctP f g (Rat.divInt a b)))<0)=false):OwnSp Tryz.prog :=
 ⟨105,Tryz.call105,rpA f g,pr2 (.fin (ctP f g (Rat.divInt a b))) (.fin (ctQ f g (Rat.divInt a b))),ptR2,own_ok (K:=26) (ptL hf hg hs hc++sgR 69 hA.1++sgR 74 hA.2++[(sAxOne hA.1 hA.2).e]++sgR 37 hA.1++[(sCutYes hl hk h0 hn h ht).e,dIdxP PLT (ctK f g (Rat.divInt a b)),dPlace PLT (ctK f g (Rat.divInt a b)),(kToldP hP).e,.app appPt,dIdxP PLT (ctK f g (Rat.divInt a b)),dPlace PLT (ctK f g (Rat.divInt a b)),(kToldP hQ).e,.app appPt,(sSortQ2 hP hQ hne hb).e]) [(2,6)] 1500 Tryz.func105 hmA (fun β=>by kernel_rfl) (by kernel_rfl) rfl (by kernel_rfl) (by kernel_rfl),by kernel_rfl⟩
noncomputable def sPtNoTwo (hA:axAt f g .two) (hl:RSz KI g) (hk:RSz KI f) (h0:f.a≠0) (hn:cuN g≠0) {n d a b:Nat} (h:RootB (cuX g f) n d a b) (ht:decide (Rat.divInt a b*Rat.divInt a b=cuX g f)=false):Spec Tryz.prog :=
 Spec.auto Tryz.call105 (rpA f g) [] (ptNil 230) [] (ptL hf hg hs hc++sgR 69 hA.1++[(sAxTwo hA.1 hA.2).e]++sgR 37 hA.1++[(sCutNo hl hk h0 hn h ht).e]) [(2,6)] 1500 Tryz.func105 hmA (by kernel_rfl) (fun β=>by kernel_rfl)
noncomputable def sPtBigATwo (hA:axAt f g .two) (hl:RSz KI g) (hk:RSz KI f) (h0:f.a≠0) (hn:cuN g≠0) {n d a b:Nat} (h:RootB (cuX g f) n d a b) (ht:decide (Rat.divInt a b*Rat.divInt a b=cuX g f)=true) (hP:¬ FitG (ctP g f (Rat.divInt a b))) (hz:GSz KB (ctP g f (Rat.divInt a b))):Spec Tryz.prog :=
 Spec.auto Tryz.call105 (rpA f g) [] (ptNil 4) [] (ptL hf hg hs hc++sgR 69 hA.1++[(sAxTwo hA.1 hA.2).e]++sgR 37 hA.1++[(sCutYes hl hk h0 hn h ht).e,dIdxP PLT (ctK g f (Rat.divInt a b)),dPlace PLT (ctK g f (Rat.divInt a b)),(sToldNo hP hz).e]) [(2,6)] 1500 Tryz.func105 hmA (by kernel_rfl) (fun β=>by kernel_rfl)
noncomputable def sPtBigBTwo (hA:axAt f g .two) (hl:RSz KI g) (hk:RSz KI f) (h0:f.a≠0) (hn:cuN g≠0) {n d a b:Nat} (h:RootB (cuX g f) n d a b) (ht:decide (Rat.divInt a b*Rat.divInt a b=cuX g f)=true) (hP:FitP (.fin (ctP g f (Rat.divInt a b)))) (hQ:¬ FitG (ctQ g f (Rat.divInt a b))) (hz:GSz KB (ctQ g f (Rat.divInt a b))):Spec Tryz.prog :=
 Spec.auto Tryz.call105 (rpA f g) [] (ptNil 4) [] (ptL hf hg hs hc++sgR 69 hA.1++[(sAxTwo hA.1 hA.2).e]++sgR 37 hA.1++[(sCutYes hl hk h0 hn h ht).e,dIdxP PLT (ctK g f (Rat.divInt a b)),dPlace PLT (ctK g f (Rat.divInt a b)),(kToldP hP).e,.app appPt,dIdxP PLT (ctK g f (Rat.divInt a b)),dPlace PLT (ctK g f (Rat.divInt a b)),(sToldNo hQ hz).e]) [(2,6)] 1500 Tryz.func105 hmA (by kernel_rfl) (fun β=>by kernel_rfl)
noncomputable def oPtTwoSw (hA:axAt f g .two) (hl:RSz KI g) (hk:RSz KI f) (h0:f.a≠0) (hn:cuN g≠0) {n d a b:Nat} (h:RootB (cuX g f) n d a b) (ht:decide (Rat.divInt a b*Rat.divInt a b=cuX g f)=true) (hP:FitP (.fin (ctP g f (Rat.divInt a b)))) (hQ:FitP (.fin (ctQ g f (Rat.divInt a b)))) (hne:ptB (.fin (ctQ g f (Rat.divInt a b))) (.fin (ctP g f (Rat.divInt a b)))=false) (hb:decide (ordI (.fin (ctQ g f (Rat.divInt a b))) (.fin (ctP g f (Rat.divInt a b)))<0)=true):OwnSp Tryz.prog :=
 ⟨105,Tryz.call105,rpA f g,pr2 (.fin (ctQ g f (Rat.divInt a b))) (.fin (ctP g f (Rat.divInt a b))),ptR2,own_ok (K:=26) (ptL hf hg hs hc++sgR 69 hA.1++[(sAxTwo hA.1 hA.2).e]++sgR 37 hA.1++[(sCutYes hl hk h0 hn h ht).e,dIdxP PLT (ctK g f (Rat.divInt a b)),dPlace PLT (ctK g f (Rat.divInt a b)),(kToldP hP).e,.app appPt,dIdxP PLT (ctK g f (Rat.divInt a b)),dPlace PLT (ctK g f (Rat.divInt a b)),(kToldP hQ).e,.app appPt,(sSortP2 hP hQ hne hb).e]) [(2,6)] 1500 Tryz.func105 hmA (fun β=>by kernel_rfl) (by kernel_rfl) rfl (by kernel_rfl) (by kernel_rfl),by kernel_rfl⟩
noncomputable def oPtTwoIn (hA:axAt f g .two) (hl:RSz KI g) (hk:RSz KI f) (h0:f.a≠0) (hn:cuN g≠0) {n d a b:Nat} (h:RootB (cuX g f) n d a b) (ht:decide (Rat.divInt a b*Rat.divInt a b=cuX g f)=true) (hP:FitP (.fin (ctP g f (Rat.divInt a b)))) (hQ:FitP (.fin (ctQ g f (Rat.divInt a b)))) (hne:ptB (.fin (ctQ g f (Rat.divInt a b))) (.fin (ctP g f (Rat.divInt a b)))=false) (hb:decide (ordI (.fin (ctQ g f (Rat.divInt a b))) (.fin (ctP g f (Rat.divInt a b)))<0)=false):OwnSp Tryz.prog :=
 ⟨105,Tryz.call105,rpA f g,pr2 (.fin (ctP g f (Rat.divInt a b))) (.fin (ctQ g f (Rat.divInt a b))),ptR2,own_ok (K:=26) (ptL hf hg hs hc++sgR 69 hA.1++[(sAxTwo hA.1 hA.2).e]++sgR 37 hA.1++[(sCutYes hl hk h0 hn h ht).e,dIdxP PLT (ctK g f (Rat.divInt a b)),dPlace PLT (ctK g f (Rat.divInt a b)),(kToldP hP).e,.app appPt,dIdxP PLT (ctK g f (Rat.divInt a b)),dPlace PLT (ctK g f (Rat.divInt a b)),(kToldP hQ).e,.app appPt,(sSortQ2 hP hQ hne hb).e]) [(2,6)] 1500 Tryz.func105 hmA (fun β=>by kernel_rfl) (by kernel_rfl) rfl (by kernel_rfl) (by kernel_rfl),by kernel_rfl⟩
noncomputable def sPtNoNone (hA:axAt f g .none) (hw:decide ((fpr (axQ f g) (axQ f g)).num.sign≤0)=false) (hl:RSz KI (axQ f g)) (hk:RSz KI f) (h0:f.a≠0) (hn:cuN (axQ f g)≠0) {n d a b:Nat} (h:RootB (cuX (axQ f g) f) n d a b) (ht:decide (Rat.divInt a b*Rat.divInt a b=cuX (axQ f g) f)=false):Spec Tryz.prog :=
 Spec.auto Tryz.call105 (rpA f g) [] (ptNil 230) [] (ptL hf hg hs hc++sgR 69 hA.1++[(sAxNone hf hg hA.1 hA.2 hw).e]++sgR 37 hA.1++[(sCutNo hl hk h0 hn h ht).e]) [(2,6)] 1500 Tryz.func105 hmA (by kernel_rfl) (fun β=>by kernel_rfl)
noncomputable def sPtBigANone (hA:axAt f g .none) (hw:decide ((fpr (axQ f g) (axQ f g)).num.sign≤0)=false) (hl:RSz KI (axQ f g)) (hk:RSz KI f) (h0:f.a≠0) (hn:cuN (axQ f g)≠0) {n d a b:Nat} (h:RootB (cuX (axQ f g) f) n d a b) (ht:decide (Rat.divInt a b*Rat.divInt a b=cuX (axQ f g) f)=true) (hP:¬ FitG (ctP (axQ f g) f (Rat.divInt a b))) (hz:GSz KB (ctP (axQ f g) f (Rat.divInt a b))):Spec Tryz.prog :=
 Spec.auto Tryz.call105 (rpA f g) [] (ptNil 4) [] (ptL hf hg hs hc++sgR 69 hA.1++[(sAxNone hf hg hA.1 hA.2 hw).e]++sgR 37 hA.1++[(sCutYes hl hk h0 hn h ht).e,dIdxP PLT (ctK (axQ f g) f (Rat.divInt a b)),dPlace PLT (ctK (axQ f g) f (Rat.divInt a b)),(sToldNo hP hz).e]) [(2,6)] 1500 Tryz.func105 hmA (by kernel_rfl) (fun β=>by kernel_rfl)
noncomputable def sPtBigBNone (hA:axAt f g .none) (hw:decide ((fpr (axQ f g) (axQ f g)).num.sign≤0)=false) (hl:RSz KI (axQ f g)) (hk:RSz KI f) (h0:f.a≠0) (hn:cuN (axQ f g)≠0) {n d a b:Nat} (h:RootB (cuX (axQ f g) f) n d a b) (ht:decide (Rat.divInt a b*Rat.divInt a b=cuX (axQ f g) f)=true) (hP:FitP (.fin (ctP (axQ f g) f (Rat.divInt a b)))) (hQ:¬ FitG (ctQ (axQ f g) f (Rat.divInt a b))) (hz:GSz KB (ctQ (axQ f g) f (Rat.divInt a b))):Spec Tryz.prog :=
 Spec.auto Tryz.call105 (rpA f g) [] (ptNil 4) [] (ptL hf hg hs hc++sgR 69 hA.1++[(sAxNone hf hg hA.1 hA.2 hw).e]++sgR 37 hA.1++[(sCutYes hl hk h0 hn h ht).e,dIdxP PLT (ctK (axQ f g) f (Rat.divInt a b)),dPlace PLT (ctK (axQ f g) f (Rat.divInt a b)),(kToldP hP).e,.app appPt,dIdxP PLT (ctK (axQ f g) f (Rat.divInt a b)),dPlace PLT (ctK (axQ f g) f (Rat.divInt a b)),(sToldNo hQ hz).e]) [(2,6)] 1500 Tryz.func105 hmA (by kernel_rfl) (fun β=>by kernel_rfl)
noncomputable def oPtNoneSw (hA:axAt f g .none) (hw:decide ((fpr (axQ f g) (axQ f g)).num.sign≤0)=false) (hl:RSz KI (axQ f g)) (hk:RSz KI f) (h0:f.a≠0) (hn:cuN (axQ f g)≠0) {n d a b:Nat} (h:RootB (cuX (axQ f g) f) n d a b) (ht:decide (Rat.divInt a b*Rat.divInt a b=cuX (axQ f g) f)=true) (hP:FitP (.fin (ctP (axQ f g) f (Rat.divInt a b)))) (hQ:FitP (.fin (ctQ (axQ f g) f (Rat.divInt a b)))) (hne:ptB (.fin (ctQ (axQ f g) f (Rat.divInt a b))) (.fin (ctP (axQ f g) f (Rat.divInt a b)))=false) (hb:decide (ordI (.fin (ctQ (axQ f g) f (Rat.divInt a b))) (.fin (ctP (axQ f g) f (Rat.divInt a b)))<0)=true):OwnSp Tryz.prog :=
 ⟨105,Tryz.call105,rpA f g,pr2 (.fin (ctQ (axQ f g) f (Rat.divInt a b))) (.fin (ctP (axQ f g) f (Rat.divInt a b))),ptR2,own_ok (K:=30) (ptL hf hg hs hc++sgR 69 hA.1++[(sAxNone hf hg hA.1 hA.2 hw).e]++sgR 37 hA.1++[(sCutYes hl hk h0 hn h ht).e,dIdxP PLT (ctK (axQ f g) f (Rat.divInt a b)),dPlace PLT (ctK (axQ f g) f (Rat.divInt a b)),(kToldP hP).e,.app appPt,dIdxP PLT (ctK (axQ f g) f (Rat.divInt a b)),dPlace PLT (ctK (axQ f g) f (Rat.divInt a b)),(kToldP hQ).e,.app appPt,(sSortP2 hP hQ hne hb).e]) [(2,6)] 1500 Tryz.func105 hmA (fun β=>by kernel_rfl) (by kernel_rfl) rfl (by kernel_rfl) (by kernel_rfl),by kernel_rfl⟩
noncomputable def oPtNoneIn (hA:axAt f g .none) (hw:decide ((fpr (axQ f g) (axQ f g)).num.sign≤0)=false) (hl:RSz KI (axQ f g)) (hk:RSz KI f) (h0:f.a≠0) (hn:cuN (axQ f g)≠0) {n d a b:Nat} (h:RootB (cuX (axQ f g) f) n d a b) (ht:decide (Rat.divInt a b*Rat.divInt a b=cuX (axQ f g) f)=true) (hP:FitP (.fin (ctP (axQ f g) f (Rat.divInt a b)))) (hQ:FitP (.fin (ctQ (axQ f g) f (Rat.divInt a b)))) (hne:ptB (.fin (ctQ (axQ f g) f (Rat.divInt a b))) (.fin (ctP (axQ f g) f (Rat.divInt a b)))=false) (hb:decide (ordI (.fin (ctQ (axQ f g) f (Rat.divInt a b))) (.fin (ctP (axQ f g) f (Rat.divInt a b)))<0)=false):OwnSp Tryz.prog :=
 ⟨105,Tryz.call105,rpA f g,pr2 (.fin (ctP (axQ f g) f (Rat.divInt a b))) (.fin (ctQ (axQ f g) f (Rat.divInt a b))),ptR2,own_ok (K:=30) (ptL hf hg hs hc++sgR 69 hA.1++[(sAxNone hf hg hA.1 hA.2 hw).e]++sgR 37 hA.1++[(sCutYes hl hk h0 hn h ht).e,dIdxP PLT (ctK (axQ f g) f (Rat.divInt a b)),dPlace PLT (ctK (axQ f g) f (Rat.divInt a b)),(kToldP hP).e,.app appPt,dIdxP PLT (ctK (axQ f g) f (Rat.divInt a b)),dPlace PLT (ctK (axQ f g) f (Rat.divInt a b)),(kToldP hQ).e,.app appPt,(sSortQ2 hP hQ hne hb).e]) [(2,6)] 1500 Tryz.func105 hmA (fun β=>by kernel_rfl) (by kernel_rfl) rfl (by kernel_rfl) (by kernel_rfl),by kernel_rfl⟩
end
end
abbrev ValT (fn:FuncId) (f g:RQ) (res:SV):Prop:=∀ (β:Env) (w:World),(∀ (k:Nat) (t:Thing),([]:List Thing)[k]?=some t→t.D w (β k)) →
 Calls Tryz.prog fn ((rpA f g).map (SV.den β)).toArray w fun e w'=>∃ xs:List Pl,freshS β w 0 xs∧e=.returned (res.den (extE β 0 xs))∧newHold w' [] xs∧Below w.heap.size w w'
abbrev OwnT (fn:FuncId) (f g:RQ) (row:Ob) (res:SV):Prop:=∀ (β:Env) (w:World),
 Calls Tryz.prog fn ((rpA f g).map (SV.den β)).toArray w fun e w'=>∃ p:Pl,w.heap.size≤p.b∧e=.returned (res.den (fun _=>p))∧row.holds (fun _=>p) w' p∧Below w.heap.size w w'
abbrev ptsF:FuncId:=105
section
variable {f g:RQ}
def pNil {k:Int} (h:ValT ptsF f g (ptNil k)):Spec Tryz.prog:=⟨ptsF,Tryz.call105,rpA f g,[],ptNil k,[],h,by kernel_rfl⟩
def pOne {A:Pt} (h:OwnT ptsF f g (pr1 A) ptR1):OwnSp Tryz.prog:=⟨ptsF,Tryz.call105,rpA f g,pr1 A,ptR1,h,by kernel_rfl⟩
def pTwo {A B:Pt} (h:OwnT ptsF f g (pr2 A B) ptR2):OwnSp Tryz.prog:=⟨ptsF,Tryz.call105,rpA f g,pr2 A B,ptR2,h,by kernel_rfl⟩
end
theorem mpCmp_neg (x y:Rat):cmpQ x y = -cmpQ y x:=by
 unfold cmpQ
 by_cases h1:x<y
 · rw [if_pos h1,if_neg (by grind),if_pos h1]
 · rw [if_neg h1]
   by_cases h2:y<x
   · rw [if_pos h2,if_pos h2]; rfl
   · rw [if_neg h2,if_neg h2,if_neg h1]; rfl
theorem ordI_neg (p q:Pt):ordI p q = -ordI q p:=by
 cases p<;>cases q
 · rfl
 · rfl
 · rfl
 · rename_i z w
   show cmpG _ z w = -cmpG _ w z
   rw [mpCmp_neg w.re z.re]
   have e:(-cmpQ z.re w.re==0)=(cmpQ z.re w.re==0):=by
    rw [Bool.eq_iff_iff,beq_iff_eq,beq_iff_eq]; omega
   rw [e]
   unfold cmpG
   cases (!(cmpQ z.re w.re==0))
   · exact mpCmp_neg ..
   · exact mpCmp_neg ..
theorem ordI_ne {z w:GQ} (h:z≠w):ordI (.fin z) (.fin w)≠0:=by
 show cmpG _ z w≠0
 unfold cmpG
 cases e:(!(cmpQ z.re w.re==0)) with
 | true=>simpa using e
 | false =>
  have e1:cmpQ z.re w.re=0:=by simpa using e
  show cmpQ z.im w.im≠0
  intro e2
  exact h (GQ.ext2 (cmpQ_zero.1 e1) (cmpQ_zero.1 e2))
theorem rb_szt {X:Rat} {n d a b:Nat} (h:RootB X n d a b) (hX:Sz 7173 X) (ht:Rat.divInt a b*Rat.divInt a b=X):Sz 7173 (Rat.divInt a b):=by
 obtain ⟨n1,n2⟩:=sq_num (Rat.divInt a b)
 rw [ht] at n1 n2
 have z1:(mag X.num.natAbs).size≤7173:=hX.1
 have z2:(mag (X.den:Int).natAbs).size≤7173:=hX.2
 rw [n1,Int.natAbs_mul] at z1
 rw [Int.natAbs_natCast,n2] at z2
 refine ⟨mag_mono (Nat.le_mul_self _) z1,?_⟩
 show (mag (((Rat.divInt a b).den:Int)).natAbs).size≤7173
 rw [Int.natAbs_natCast]
 exact mag_mono (Nat.le_mul_self _) z2
section
variable {f g:RQ} (hf:MayC f) (hg:MayC g) (sf:RSz 60 f) (sg:RSz 60 g) (hs:eqRone f g=false) (hc:cmpQ (fsq f g) one1 = -1)
include sf sg in
theorem ax60:RSz 123 (axQ f g):=(pls_sz sf sg (k:=1) (l:=1) (Sz.small (by decide)) (Sz.small (by decide))).mono (by decide)
theorem mpNum_pos {x:Rat}:0<x.num↔0<x:=by
 have h1:0≤x.num↔0≤x:=Rat.num_nonneg
 have h2:x.num=0↔x=0:=Rat.num_eq_zero
 constructor
 · intro h
   have h3:=h1.1 (by omega)
   have h4:x≠0:=fun e=>by have:=h2.2 e; omega
   grind
 · intro h
   have h3:=h1.2 (by grind)
   have h4:x.num≠0:=fun e=>by have:=h2.1 e; grind
   omega
theorem may_pos {f:RQ} (hf:MayC f):0<fpr f f:=by
 have h:=of_decide_eq_false hf.pow
 rw [← rpow_fpr] at h
 have h2:0<(fpr f f).num:=by
  rcases Int.lt_trichotomy (fpr f f).num 0 with e | e | e
  · rw [Int.sign_eq_neg_one_of_neg e] at h; omega
  · rw [e] at h; exact absurd (by decide) h
  · exact e
 exact mpNum_pos.1 h2
theorem may_a {f:RQ} (hf:MayC f) (h0:f.a≠0):f.a=1:=by
 have h:=congrArg RQ.a hf.one
 have e:rby f=f.a:=by
  unfold rby
  rw [decide_eq_false h0]
  rfl
 have h1:f.a*(rby f)⁻¹=f.a:=h
 rw [e,Rat.mul_inv_cancel _ h0] at h1
 exact h1.symm
end
theorem mpBig_no {k:Nat} {s:ByteArray} (h:big k s=false):s.size≤k:=by
 have:=of_decide_eq_false h
 omega
theorem mpSmB_sz {k:Nat} {x y:Rat} (h:smB k (fR x) (fR y)=true):Sz k x∧Sz k y:=by
 unfold smB at h
 simp only [Bool.not_eq_true',Bool.or_eq_false_iff] at h
 exact ⟨⟨mpBig_no h.1,by rw [sz_nat]; exact mpBig_no h.2.1⟩,⟨mpBig_no h.2.2.1,by rw [sz_nat]; exact mpBig_no h.2.2.2⟩⟩
theorem ct_parts (l k:RQ) (t:Rat):(ctP l k t).re=(rcQ k).re-l.b.re*(cuV l k/(cuN l*i21))+l.b.im*t∧(ctP l k t).im=(rcQ k).im+l.b.im*(cuV l k/(cuN l*i21))+l.b.re*t:=by
 unfold ctP cuF cuB
 rw [cen_eq,way_eq,gint01]
 unfold gadd gsub gscale gmul gconj
 constructor<;>(dsimp only; grind)
theorem ct_flip (l k:RQ) (t:Rat):ctQ l k t=ctP l k (-t):=by
 unfold ctQ ctP cuB gadd gsub gscale
 refine GQ.ext2 ?_ ?_<;>(dsimp only; grind)
theorem cutId1 {zr zi lr li lc q t N v:Rat} (hN:N=lr*lr+li*li) (hv:v=2*(zr*lr-zi*li)+lc) (hq:q*(N*2)=v):0*((zr-lr*q+li*t)*(zr-lr*q+li*t)+(zi+li*q+lr*t)*(zi+li*q+lr*t))+2*(lr*(zr-lr*q+li*t)-li*(zi+li*q+lr*t))+lc=0:=by grind
theorem cutId2 {a br bi c zr zi dr di D kk:Rat} (h1:zr*a = -br) (h2:zi*a=bi) (hk:kk=br*br+bi*bi-a*c) (hd:dr*dr+di*di=D) (hD:D*(a*a)=kk):(a*((zr+dr)*(zr+dr)+(zi+di)*(zi+di))+2*(br*(zr+dr)-bi*(zi+di))+c)*a=0:=by grind
theorem cutId3 {lr li q t N:Rat} (hN:N=lr*lr+li*li):(-(lr*q)+li*t)*(-(lr*q)+li*t)+(li*q+lr*t)*(li*q+lr*t)=N*(q*q)+N*(t*t):=by grind
theorem cut_onP {l k:RQ} (ha:l.a=0) (h0:k.a≠0) (hn:cuN l≠0) {t:Rat} (ht:t*t=cuX l k):valQ l (ctP l k t)=0∧valQ k (ctP l k t)=0:=by
 obtain ⟨p1,p2⟩:=ct_parts l k t
 obtain ⟨z1,z2⟩:=rc_a h0
 have hN:=cuN_eq l
 have hv:=cuV_eq l k
 have hq:cuV l k/(cuN l*i21)*(cuN l*2)=cuV l k:=by
  have:cuN l*i21≠0:=mul_ne hn i21_ne
  rw [← i21v,Rat.div_mul_cancel this]
 refine ⟨?_,?_⟩
 · rw [val_eq,p1,p2,ha]
   exact cutId1 hN hv hq
 · refine eq_of_mul h0 ?_
   rw [Rat.zero_mul,val_eq,p1,p2]
   have hk:fpr k k=k.b.re*k.b.re+k.b.im*k.b.im-k.a*k.c:=by have:=fpr_two k k; grind
   have hR:cuR k*(k.a*k.a)=fpr k k:=by unfold cuR; rw [Rat.div_mul_cancel (mul_ne h0 h0)]
   have hX:cuX l k*cuN l=cuR k-cuV l k*cuV l k/(cuN l*i41):=by unfold cuX; rw [Rat.div_mul_cancel hn]
   have hH:cuV l k*cuV l k/(cuN l*i41)*(cuN l*4)=cuV l k*cuV l k:=by
    have:cuN l*i41≠0:=mul_ne hn i41_ne
    rw [← i41v,Rat.div_mul_cancel this]
   generalize cuV l k/(cuN l*i21)=q at *
   generalize cuV l k*cuV l k/(cuN l*i41)=h at *
   have hh:h=cuN l*(q*q):=by
    refine eq_of_mul (z:=cuN l*4) (mul_ne hn (by decide)) ?_
    rw [hH,← hq]
    grind
   have hD:(cuN l*(q*q)+cuN l*(t*t))*(k.a*k.a)=fpr k k:=by
    rw [← hR,ht,← hh]
    grind
   have:=cutId2 z1 z2 hk (cutId3 (q:=q) (t:=t) hN) hD
   have e1:(rcQ k).re-l.b.re*q+l.b.im*t=(rcQ k).re+(-(l.b.re*q)+l.b.im*t):=by grind
   have e2:(rcQ k).im+l.b.im*q+l.b.re*t=(rcQ k).im+(l.b.im*q+l.b.re*t):=by grind
   rw [e1,e2]
   exact this
theorem cut_onQ {l k:RQ} (ha:l.a=0) (h0:k.a≠0) (hn:cuN l≠0) {t:Rat} (ht:t*t=cuX l k):valQ l (ctQ l k t)=0∧valQ k (ctQ l k t)=0:=by
 rw [ct_flip]
 exact cut_onP ha h0 hn (by rw [← ht]; grind)
def OnB (f g:RQ) (p:Pt):Prop:=sidQ f p=0∧sidQ g p=0
theorem ax_val (f g:RQ) (z:GQ):valQ (axQ f g) z=valQ f z-valQ g z:=by
 unfold axQ
 rw [val_pls,div11v,mdiv11v]
 grind
section
variable {f g:RQ} (hf:MayC f) (hg:MayC g) (hs:eqRone f g=false) (hc:cmpQ (fsq f g) one1=0)
include hf hg hc in
theorem tc_sq:fpr f g*fpr f g=fpr f f*fpr g g:=by
 have h:=cmpQ_zero.1 hc
 unfold fsq at h
 have h1:one1=1:=div11v
 rw [h1] at h
 have h2:=Rat.div_mul_cancel (a:=fpr f g*fpr f g) (mul_ne hf.ff hg.ff)
 rw [h] at h2
 grind
include hf hg hc in
theorem tc_0:fpr f (tcQ f g)=0∧fpr g (tcQ f g)=0∧fpr (tcQ f g) (tcQ f g)=0:=by
 have e:=tc_sq hf hg hc
 have hgf:=fpr_comm g f
 have h1:fpr f (tcQ f g)=0:=by unfold tcQ; rw [fpr_pls]; grind
 have h2:fpr g (tcQ f g)=0:=by unfold tcQ; rw [fpr_pls,hgf]; grind
 refine ⟨h1,h2,?_⟩
 rw [show fpr (tcQ f g) (tcQ f g)=fpr (tcQ f g) (pls f g (-(fpr f g)) (fpr f f)) from rfl,fpr_pls,fpr_comm (tcQ f g) f,fpr_comm (tcQ f g) g,h1,h2]
 grind
include hf hg hc in
theorem tc_fin (h0:(tcQ f g).a≠0):OnB f g (.fin (cenQ (tcQ f g))):=by
 obtain ⟨h1,h2,h3⟩:=tc_0 hf hg hc
 obtain ⟨z1,z2⟩:=rc_a h0
 have k1:=fpr_two f (tcQ f g)
 have k2:=fpr_two g (tcQ f g)
 have k3:=fpr_two (tcQ f g) (tcQ f g)
 rw [h1] at k1
 rw [h2] at k2
 rw [h3] at k3
 rw [cen_eq]
 generalize rcQ (tcQ f g)=z at *
 generalize tcQ f g=T at *
 refine ⟨?_,?_⟩
 · show valQ f z=0
   refine eq_of_mul (mul_ne h0 h0) ?_
   rw [val_eq]
   have e1:(f.a*(z.re*z.re+z.im*z.im)+2*(f.b.re*z.re-f.b.im*z.im)+f.c)*(T.a*T.a)=f.a*((z.re*T.a)*(z.re*T.a)+(z.im*T.a)*(z.im*T.a))+2*T.a*(f.b.re*(z.re*T.a)-f.b.im*(z.im*T.a))+f.c*T.a*T.a:=by grind
   rw [e1,z1,z2]
   grind
 · show valQ g z=0
   refine eq_of_mul (mul_ne h0 h0) ?_
   rw [val_eq]
   have e1:(g.a*(z.re*z.re+z.im*z.im)+2*(g.b.re*z.re-g.b.im*z.im)+g.c)*(T.a*T.a)=g.a*((z.re*T.a)*(z.re*T.a)+(z.im*T.a)*(z.im*T.a))+2*T.a*(g.b.re*(z.re*T.a)-g.b.im*(z.im*T.a))+g.c*T.a*T.a:=by grind
   rw [e1,z1,z2]
   grind
include hf hg hs hc in
theorem tc_inf (h0:(tcQ f g).a=0):OnB f g .inf:=by
 obtain ⟨h1,h2,h3⟩:=tc_0 hf hg hc
 have k1:=fpr_two f (tcQ f g)
 have k2:=fpr_two g (tcQ f g)
 have k3:=fpr_two (tcQ f g) (tcQ f g)
 rw [h1,h0] at k1
 rw [h2,h0] at k2
 rw [h3,h0] at k3
 have hb:(tcQ f g).b.re=0∧(tcQ f g).b.im=0:=sq_sum (by grind)
 by_cases hC:(tcQ f g).c=0
 · exfalso
   have t1 : -(fpr f g)*f.a+fpr f f*g.a=0:=h0
   have t2 : -(fpr f g)*f.b.re+fpr f f*g.b.re=0:=hb.1
   have t3 : -(fpr f g)*f.b.im+fpr f f*g.b.im=0:=hb.2
   have t4 : -(fpr f g)*f.c+fpr f f*g.c=0:=hC
   have hne:fpr f g≠0:=by
    intro e
    have:=tc_sq hf hg hc
    rw [e,Rat.mul_zero] at this
    exact mul_ne hf.ff hg.ff this.symm
   have hi:=Rat.mul_inv_cancel _ hf.ff
   have hz:fpr f g*(fpr f f)⁻¹≠0:=mul_ne hne (inv_ne hf.ff)
   have hfg:g=rnm f ((fpr f g*(fpr f f)⁻¹)⁻¹):=by
    unfold rnm gscale
    rw [Rat.inv_inv]
    generalize (fpr f f)⁻¹=i at *
    generalize fpr f g=x at *
    generalize fpr f f=y at *
    refine mvExt ?_ ?_ ?_ ?_<;>dsimp only<;>grind
   have:=hg.one
   rw [hfg,rone_rnm (inv_ne hz),hf.one] at this
   have e2:f=g:=by rw [hfg]; exact this
   rw [eqRone_iff.2 e2] at hs
   cases hs
 · have q:∀ x:Rat,x*(tcQ f g).c=0→x=0:=fun x h=>(Rat.mul_eq_zero.1 h).elim id fun h=>absurd h hC
   refine ⟨q _ ?_,q _ ?_⟩
   · show f.a*(tcQ f g).c=0
     rw [hb.1,hb.2] at k1
     grind
   · show g.a*(tcQ f g).c=0
     rw [hb.1,hb.2] at k2
     grind
end
theorem may_rone {r:RQ} (hr:RSz 512 r) (hw:wtB r=false):MayC (rone r):=by
 have hy:rby r≠0:=rby_ne hw
 have sz:RSz 1024 (rone r):=(rnm_sz hr (rby_sz hr _ _) hy).mono (by decide)
 refine ⟨⟨sz.a.fit (by decide),⟨sz.b.1.fit (by decide),sz.b.2.fit (by decide)⟩,sz.c.fit (by decide)⟩,?_,rone_rnm hy⟩
 have h1:rpow (rone r)=rpow r*((rby r)⁻¹*(rby r)⁻¹):=by
  rw [← rpow_fpr,← rpow_fpr]
  unfold rone
  rw [fpr_rnm,fpr_comm,fpr_rnm]
  grind
 have h2:0<rpow r:=by
  have h:=of_decide_eq_false hw
  have h2:0<(rpow r).num:=by
   rcases Int.lt_trichotomy (rpow r).num 0 with e | e | e
   · rw [Int.sign_eq_neg_one_of_neg e] at h; omega
   · rw [e] at h; exact absurd (by decide) h
   · exact e
  exact mpNum_pos.1 h2
 have h3:0<(rby r)⁻¹*(rby r)⁻¹:=by
  have h4:=sq_nonneg (rby r)⁻¹
  have h5:(rby r)⁻¹*(rby r)⁻¹≠0:=mul_ne (inv_ne hy) (inv_ne hy)
  grind
 have h4:0<(rpow (rone r)).num:=mpNum_pos.2 (by rw [h1]; exact Rat.mul_pos h2 h3)
 rw [Int.sign_eq_one_of_pos h4]
 rfl
section
variable {f g h:RQ} (hf:RSz 14 f) (hg:RSz 14 g) (hh:RSz 14 h)
include hf hg in
theorem ov14 (h0:fpr f f≠0):RSz 512 (ovQ f g):=(pls_sz hg hf one_szH (div_sz (two_sz.mul (fpr_sz hf hg)) (fpr_sz hf hf) h0)).mono (by decide)
end
def dtN (n:MQ):Rat:=gnorm (gsub (gmul n.a n.d) (gmul n.b n.c))
set_option maxHeartbeats 2000000 in
theorem im_fpr (r s:RQ) (n:MQ) (t:Bool):fpr (imQ r n t) (imQ s n t)=dtN n*fpr r s:=by
 have h1:=fpr_two (imQ r n t) (imQ s n t)
 have h2:=fpr_two r s
 have h:2*fpr (imQ r n t) (imQ s n t)=2*(dtN n*fpr r s):=by
  rw [h1,show 2*(dtN n*fpr r s)=dtN n*(2*fpr r s) by grind,h2]
  obtain ⟨ra,⟨rx,ry⟩,rc⟩:=r
  obtain ⟨sa,⟨sx,sy⟩,sc⟩:=s
  obtain ⟨⟨ax,ay⟩,⟨bx,by'⟩,⟨cx,cy⟩,⟨dx,dy⟩,nt⟩:=n
  clear h1 h2
  cases t
  · simp only [imQ,imF,imX,imB,dtN,gadd,gsub,gscale,gmul,gconj,gnorm,cond_false,cond_true]
    grind
  · simp only [imQ,imF,imX,imB,dtN,gadd,gsub,gscale,gmul,gconj,gnorm,cond_false,cond_true]
    grind
 grind
def Iz (k:Nat) (x:Rat):Prop:=∃ u:Int,u.natAbs<256^k∧x=u
theorem Iz.mono {i k:Nat} {x:Rat} (h:Iz i x) (hk:i≤k):Iz k x:=by
 obtain ⟨u,h1,h2⟩:=h
 exact ⟨u,Nat.lt_of_lt_of_le h1 (Nat.pow_le_pow_right (by decide) hk),h2⟩
theorem Iz.mul {i j:Nat} {x y:Rat} (h:Iz i x) (k:Iz j y):Iz (i+j) (x*y):=by
 obtain ⟨u,h1,rfl⟩:=h
 obtain ⟨v,k1,rfl⟩:=k
 refine ⟨u*v,?_,(Rat.intCast_mul u v).symm⟩
 rw [Int.natAbs_mul,Nat.pow_add]
 exact Nat.mul_lt_mul'' h1 k1
theorem Iz.add {i:Nat} {x y:Rat} (h:Iz i x) (k:Iz i y):Iz (i+1) (x+y):=by
 obtain ⟨u,h1,rfl⟩:=h
 obtain ⟨v,k1,rfl⟩:=k
 refine ⟨u+v,?_,(Rat.intCast_add u v).symm⟩
 have:=Int.natAbs_add_le u v
 rw [Nat.pow_succ]
 omega
theorem Iz.neg {i:Nat} {x:Rat} (h:Iz i x):Iz i (-x):=by
 obtain ⟨u,h1,rfl⟩:=h
 exact ⟨-u,by rwa [Int.natAbs_neg],(Rat.intCast_neg u).symm⟩
theorem Iz.sub {i:Nat} {x y:Rat} (h:Iz i x) (k:Iz i y):Iz (i+1) (x-y):=by
 rw [Rat.sub_eq_add_neg]
 exact h.add k.neg
theorem Iz.zero:Iz 1 0:=⟨0,by decide,rfl⟩
def GIz (k:Nat) (z:GQ):Prop:=Iz k z.re∧Iz k z.im
theorem GIz.mono {i k:Nat} {z:GQ} (h:GIz i z) (hk:i≤k):GIz k z:=⟨h.1.mono hk,h.2.mono hk⟩
theorem GIz.mul {i j:Nat} {z w:GQ} (h:GIz i z) (k:GIz j w):GIz (i+j+1) (gmul z w):=⟨(h.1.mul k.1).sub (h.2.mul k.2),(h.1.mul k.2).add (h.2.mul k.1)⟩
theorem GIz.add {i:Nat} {z w:GQ} (h:GIz i z) (k:GIz i w):GIz (i+1) (gadd z w):=⟨h.1.add k.1,h.2.add k.2⟩
theorem GIz.conj {i:Nat} {z:GQ} (h:GIz i z):GIz i (gconj z):=⟨h.1,h.2.neg⟩
theorem GIz.norm {i:Nat} {z:GQ} (h:GIz i z):Iz (i+i+1) (gnorm z):=(h.1.mul h.1).add (h.2.mul h.2)
theorem GIz.scale {i j:Nat} {z:GQ} {x:Rat} (h:GIz i z) (k:Iz j x):GIz (i+j) (gscale z x):=⟨h.1.mul k,h.2.mul k⟩
def RIz (k:Nat) (r:RQ):Prop:=Iz k r.a∧GIz k r.b∧Iz k r.c
theorem iz_quo {k:Nat} {x y:Rat} (h:Iz k x) (k':Iz k y):Sz (k+1) (x*y⁻¹):=by
 obtain ⟨u,h1,rfl⟩:=h
 obtain ⟨v,k1,rfl⟩:=k'
 by_cases v0:v=0
 · subst v0
   rw [show ((0:Int):Rat)=0 from rfl,Rat.inv_zero,Rat.mul_zero]
   exact (sz_zero:Sz 1 0).mono (by omega)
 · have e:(u:Rat)*(v:Rat)⁻¹=Rat.divInt u v:=by rw [Rat.divInt_eq_div,Rat.div_def]
   rw [e]
   exact (sz_divInt v0 (sz_le.2 h1) (sz_le.2 k1)).mono (by omega)
theorem riz_sz {k:Nat} {r:RQ} (h:RIz k r):RSz (k+1) (rone r):=by
 have hy:Iz k (rby r):=by
  unfold rby rbyQ
  cases decide (r.a=0)
  · exact h.1
  · cases decide (r.b.re=0)
    · exact h.2.1.1
    · exact h.2.1.2
 exact ⟨iz_quo h.1 hy,⟨iz_quo h.2.1.1 hy,iz_quo h.2.1.2 hy⟩,iz_quo h.2.2 hy⟩
theorem imX_iz {r:RQ} {v w:GQ} (h:RIz 56 r) (hv:GIz 96 v) (hw:GIz 96 w):GIz 250 (gmul (gmul r.b v) (gconj w)):=((h.2.1.mul hv).mul hw.conj).mono (by decide)
theorem imF_iz {r:RQ} {v w:GQ} (h:RIz 56 r) (hv:GIz 96 v) (hw:GIz 96 w):Iz 253 (imF r v w):=by
 have e1:Iz 250 (r.a*gnorm v):=(h.1.mul hv.norm).mono (by decide)
 have e2:Iz 250 (r.c*gnorm w):=(h.2.2.mul hw.norm).mono (by decide)
 have e3:=(imX_iz h hv hw).1
 exact ((((Iz.zero.mono (k:=250) (by decide)).add e1).add (e3.add e3)).add (e2.mono (k:=252) (by decide))).mono (by decide)
theorem imB_iz {r:RQ} {p q u s:GQ} (h:RIz 56 r) (hp:GIz 96 p) (hq:GIz 96 q) (hu:GIz 96 u) (hs:GIz 96 s):GIz 253 (imB r p q u s):=by
 have e1:GIz 250 (gscale (gmul p (gconj q)) r.a):=((hp.mul hq.conj).scale h.1).mono (by decide)
 have e2:=imX_iz h hp hs
 have e3:GIz 250 (gmul (gconj (gmul r.b q)) u):=((h.2.1.mul hq).conj.mul hu).mono (by decide)
 have e4:GIz 250 (gscale (gmul u (gconj s)) r.c):=((hu.mul hs.conj).scale h.2.2).mono (by decide)
 exact (((e1.add e2).add (e3.mono (k:=251) (by decide))).add (e4.mono (k:=252) (by decide))).mono (by decide)
def MIz (k:Nat) (n:MQ):Prop:=GIz k n.a∧GIz k n.b∧GIz k n.c∧GIz k n.d
theorem imQ_iz {r:RQ} {n:MQ} (h:RIz 56 r) (hn:MIz 96 n) (t:Bool):RIz 253 (imQ r n t):=by
 refine ⟨imF_iz h hn.1 hn.2.2.1,?_,imF_iz h hn.2.1 hn.2.2.2⟩
 have:=imB_iz h hn.1 hn.2.1 hn.2.2.1 hn.2.2.2
 cases t
 · exact this
 · exact this.conj
def mscale (n:MQ) (z:GQ):MQ:=⟨gmul n.a z,gmul n.b z,gmul n.c z,gmul n.d z,n.t⟩
def rscale (r:RQ) (x:Rat):RQ:=⟨r.a*x,gscale r.b x,r.c*x⟩
theorem rscale_rnm {r:RQ} {x:Rat} (h:x≠0):rscale r x=rnm r x⁻¹:=by
 unfold rscale rnm
 rw [Rat.inv_inv]
theorem im_mscale (r:RQ) (n:MQ) (z:GQ) (t:Bool):imQ r (mscale n z) t=rscale (imQ r n t) (gnorm z):=by
 obtain ⟨ra,⟨rx,ry⟩,rc⟩:=r
 obtain ⟨⟨ax,ay⟩,⟨bx,by'⟩,⟨cx,cy⟩,⟨dx,dy⟩,nt⟩:=n
 obtain ⟨zx,zy⟩:=z
 cases t<;>(refine mvExt ?_ ?_ ?_ ?_<;>(simp only [imQ,imF,imX,imB,mscale,rscale,gadd,gsub,gscale,gmul,gconj,gnorm,cond_false,cond_true]; grind))
theorem im_rscale (r:RQ) (n:MQ) (x:Rat) (t:Bool):imQ (rscale r x) n t=rscale (imQ r n t) x:=by
 obtain ⟨ra,⟨rx,ry⟩,rc⟩:=r
 obtain ⟨⟨ax,ay⟩,⟨bx,by'⟩,⟨cx,cy⟩,⟨dx,dy⟩,nt⟩:=n
 cases t<;>(refine mvExt ?_ ?_ ?_ ?_<;>(simp only [imQ,imF,imX,imB,mscale,rscale,gadd,gsub,gscale,gmul,gconj,gnorm,cond_false,cond_true]; grind))
theorem rone_rscale {r:RQ} {x:Rat} (h:x≠0):rone (rscale r x)=rone r:=by
 rw [rscale_rnm h,rone_rnm (inv_ne h)]
theorem dn_iz {k:Nat} {x:Rat} (h:Sz k x):(Iz k (x.den:Rat)∧Iz k (x.num:Rat))∧(x.den:Rat)≠0∧x*(x.den:Rat)=x.num:=by
 have h1:x.num.natAbs<256^k:=sz_le.1 h.1
 have h2:((x.den:Int)).natAbs<256^k:=sz_le.1 h.2
 have h3:(x.den:Rat)≠0:=by
  intro e
  have:(x.den:Nat)=0:=by exact_mod_cast e
  exact x.den_nz this
 refine ⟨⟨⟨(x.den:Int),h2,rfl⟩,⟨x.num,h1,rfl⟩⟩,h3,?_⟩
 have e:=Rat.num_divInt_den x
 rw [Rat.divInt_eq_div] at e
 have e2:x=(x.num:Rat)/(x.den:Rat):=e.symm
 have e3:=Rat.div_mul_cancel (a:=(x.num:Rat)) h3
 rw [← e2] at e3
 exact e3
theorem iz4 {k:Nat} {x y z w:Rat} (hx:Sz k x) (hy:Sz k y) (hz:Sz k z) (hw:Sz k w):∃ V:Rat,V≠0∧Iz (4*k) V∧Iz (4*k) (x*V)∧Iz (4*k) (y*V)∧Iz (4*k) (z*V)∧Iz (4*k) (w*V):=by
 obtain ⟨⟨a1,b1⟩,c1,d1⟩:=dn_iz hx
 obtain ⟨⟨a2,b2⟩,c2,d2⟩:=dn_iz hy
 obtain ⟨⟨a3,b3⟩,c3,d3⟩:=dn_iz hz
 obtain ⟨⟨a4,b4⟩,c4,d4⟩:=dn_iz hw
 generalize (x.den:Rat)=p1 at *
 generalize (y.den:Rat)=p2 at *
 generalize (z.den:Rat)=p3 at *
 generalize (w.den:Rat)=p4 at *
 generalize (x.num:Rat)=q1 at *
 generalize (y.num:Rat)=q2 at *
 generalize (z.num:Rat)=q3 at *
 generalize (w.num:Rat)=q4 at *
 have e:k+(k+(k+k))≤4*k:=by omega
 refine ⟨p1*(p2*(p3*p4)),mul_ne c1 (mul_ne c2 (mul_ne c3 c4)),(a1.mul (a2.mul (a3.mul a4))).mono e,?_,?_,?_,?_⟩
 · rw [show x*(p1*(p2*(p3*p4)))=q1*(p2*(p3*p4)) by rw [← d1]; grind]
   exact (b1.mul (a2.mul (a3.mul a4))).mono e
 · rw [show y*(p1*(p2*(p3*p4)))=q2*(p1*(p3*p4)) by rw [← d2]; grind]
   exact (b2.mul (a1.mul (a3.mul a4))).mono e
 · rw [show z*(p1*(p2*(p3*p4)))=q3*(p1*(p2*p4)) by rw [← d3]; grind]
   exact (b3.mul (a1.mul (a2.mul a4))).mono e
 · rw [show w*(p1*(p2*(p3*p4)))=q4*(p1*(p2*p3)) by rw [← d4]; grind]
   exact (b4.mul (a1.mul (a2.mul a3))).mono e
theorem riz_of {r:RQ} (h:RSz 14 r):∃ V:Rat,V≠0∧RIz 56 (rscale r V):=by
 obtain ⟨V,v0,_,h1,h2,h3,h4⟩:=iz4 h.a h.b.1 h.b.2 h.c
 exact ⟨V,v0,h1,⟨h2,h3⟩,h4⟩
theorem gm_re (z:GQ) (V:Rat):gmul z ⟨V,0⟩=⟨z.re*V,z.im*V⟩:=by
 unfold gmul
 refine GQ.ext2 ?_ ?_<;>(dsimp only; grind)
theorem miz_of {m:MQ} (h:MSz 12 m):∃ V:Rat,V≠0∧MIz 96 (mscale m ⟨V,0⟩):=by
 obtain ⟨V,v0,vi,h1,h2,h3,h4⟩:=iz4 h.a.1 h.a.2 h.b.1 h.b.2
 obtain ⟨U,u0,ui,k1,k2,k3,k4⟩:=iz4 h.c.1 h.c.2 h.d.1 h.d.2
 have s1:∀ x:Rat,Iz 48 (x*V)→Iz 96 (x*(V*U)):=fun x hx=>by rw [← Rat.mul_assoc]; exact hx.mul ui
 have s2:∀ x:Rat,Iz 48 (x*U)→Iz 96 (x*(V*U)):=fun x hx=>by rw [show x*(V*U)=x*U*V by grind]; exact hx.mul vi
 refine ⟨V*U,mul_ne v0 u0,?_,?_,?_,?_⟩<;>(simp only [mscale,gm_re]; refine ⟨?_,?_⟩)
 · exact s1 _ h1
 · exact s1 _ h2
 · exact s1 _ h3
 · exact s1 _ h4
 · exact s2 _ k1
 · exact s2 _ k2
 · exact s2 _ k3
 · exact s2 _ k4
theorem gdiv_mul (z w:GQ):gdiv z w=gmul z (gscale (gconj w) (gnorm w)⁻¹):=by
 unfold gdiv
 generalize (gnorm w)⁻¹=i
 unfold gscale gmul gconj
 refine GQ.ext2 ?_ ?_<;>(dsimp only; grind)
theorem gn_ne {w:GQ} (h:gzero w=false):gnorm w≠0:=by
 intro e
 have:=sq_sum (x:=w.re) (y:=w.im) e
 rw [gzero_iff.2 this] at h
 cases h
theorem un_scale (m:MQ) {b:Bool} (h0:gzero (bif b then (mconj (mundo0 m) m.t).d else (mconj (mundo0 m) m.t).c)=false):∃ y:GQ,gnorm y≠0∧∀ r:RQ,imQ r (unQ m b) m.t=rscale (imQ r (mconj (mundo0 m) m.t) m.t) (gnorm y):=by
 generalize hw:(bif b then (mconj (mundo0 m) m.t).d else (mconj (mundo0 m) m.t).c)=w at *
 refine ⟨gscale (gconj w) (gnorm w)⁻¹,?_,fun r=>?_⟩
 · have h1:=gn_ne h0
   have e:gnorm (gscale (gconj w) (gnorm w)⁻¹)=gnorm w*((gnorm w)⁻¹*(gnorm w)⁻¹):=by
    generalize (gnorm w)⁻¹=i
    unfold gnorm gscale gconj
    grind
   rw [e]
   exact mul_ne h1 (mul_ne (inv_ne h1) (inv_ne h1))
 · rw [← im_mscale]
   unfold unQ mnormB
   rw [hw]
   simp only [gdiv_mul]
   rfl
section
variable {r:RQ} (h:MayC r) (hr:RSz 14 r) {m:MQ} (hm:MSz 12 m) {b:Bool} (h0:gzero (bif b then (mconj (mundo0 m) m.t).d else (mconj (mundo0 m) m.t).c)=false)
abbrev imX0 (r:RQ) (m:MQ) (b:Bool):RQ:=imQ r (unQ m b) m.t
include hr hm h0 in
theorem im_rsz:RSz 254 (rone (imX0 r m b)):=by
 obtain ⟨y,y0,hy⟩:=un_scale m h0
 obtain ⟨V,v0,hV⟩:=riz_of hr
 have hN:MSz 12 (mconj (mundo0 m) m.t):=hm.undo0.conj m.t
 obtain ⟨U,u0,hU⟩:=miz_of hN
 have e1:rone (imX0 r m b)=rone (imQ (rscale r V) (mscale (mconj (mundo0 m) m.t) ⟨U,0⟩) m.t):=by
  have hg:gnorm ⟨U,0⟩≠0:=by
   intro e
   have:=sq_sum (x:=U) (y:=0) e
   exact u0 this.1
  rw [show imX0 r m b=imQ r (unQ m b) m.t from rfl,hy,rone_rscale y0,im_mscale,rone_rscale hg,im_rscale,rone_rscale v0]
 rw [e1]
 exact riz_sz (imQ_iz hV hU m.t)
end
theorem dt_scale (n:MQ) (z:GQ):dtN (mscale n z)=dtN n*(gnorm z*gnorm z):=by
 obtain ⟨⟨ax,ay⟩,⟨bx,by'⟩,⟨cx,cy⟩,⟨dx,dy⟩,nt⟩:=n
 obtain ⟨zx,zy⟩:=z
 simp only [dtN,mscale,gsub,gmul,gnorm]
 grind
theorem dt_undo (m:MQ):dtN (mconj (mundo0 m) m.t)=gnorm (mdet m):=by
 obtain ⟨⟨ax,ay⟩,⟨bx,by'⟩,⟨cx,cy⟩,⟨dx,dy⟩,nt⟩:=m
 cases nt<;>(simp only [dtN,mconj,mundo0,mdet,gsub,gmul,gnorm,gneg,gconj,cond_true,cond_false]; grind)
theorem gn_pos {w:GQ} (h:gnorm w≠0):0<gnorm w:=by
 have h1:=sq_nonneg w.re
 have h2:=sq_nonneg w.im
 have:gnorm w=w.re*w.re+w.im*w.im:=rfl
 grind
theorem dt_un {m:MQ} {b:Bool} (hd:gzero (mdet m)=false) (h0:gzero (bif b then (mconj (mundo0 m) m.t).d else (mconj (mundo0 m) m.t).c)=false):0<dtN (unQ m b):=by
 have e:unQ m b=mscale (mconj (mundo0 m) m.t) (gscale (gconj (bif b then (mconj (mundo0 m) m.t).d else (mconj (mundo0 m) m.t).c)) (gnorm (bif b then (mconj (mundo0 m) m.t).d else (mconj (mundo0 m) m.t).c))⁻¹):=by
  unfold unQ mnormB
  simp only [gdiv_mul]
  rfl
 rw [e,dt_scale,dt_undo]
 have h1:=gn_ne h0
 have h2:gnorm (gscale (gconj (bif b then (mconj (mundo0 m) m.t).d else (mconj (mundo0 m) m.t).c)) (gnorm (bif b then (mconj (mundo0 m) m.t).d else (mconj (mundo0 m) m.t).c))⁻¹)≠0:=by
  generalize (bif b then (mconj (mundo0 m) m.t).d else (mconj (mundo0 m) m.t).c)=w at *
  have e:gnorm (gscale (gconj w) (gnorm w)⁻¹)=gnorm w*((gnorm w)⁻¹*(gnorm w)⁻¹):=by
   generalize (gnorm w)⁻¹=i
   unfold gnorm gscale gconj
   grind
  rw [e]
  exact mul_ne h1 (mul_ne (inv_ne h1) (inv_ne h1))
 have h3:=gn_pos h2
 exact Rat.mul_pos (gn_pos (gn_ne hd)) (Rat.mul_pos h3 h3)
theorem wt_pos {r:RQ} (h:0<fpr r r):wtB r=false:=by
 unfold wtB
 rw [← rpow_fpr,Int.sign_eq_one_of_pos (mpNum_pos.2 h)]
 rfl
theorem may_told {r:RQ} (sz:RSz 1024 (rone r)) (hp:0<fpr r r):MayC (rone r):=by
 have hw:=wt_pos hp
 have hy:rby r≠0:=rby_ne hw
 refine ⟨⟨sz.a.fit (by decide),⟨sz.b.1.fit (by decide),sz.b.2.fit (by decide)⟩,sz.c.fit (by decide)⟩,?_,rone_rnm hy⟩
 have h1:rpow (rone r)=rpow r*((rby r)⁻¹*(rby r)⁻¹):=by
  rw [← rpow_fpr,← rpow_fpr]
  unfold rone
  rw [fpr_rnm,fpr_comm,fpr_rnm]
  grind
 have h3:0<(rby r)⁻¹*(rby r)⁻¹:=by
  have h4:=sq_nonneg (rby r)⁻¹
  have h5:(rby r)⁻¹*(rby r)⁻¹≠0:=mul_ne (inv_ne hy) (inv_ne hy)
  grind
 have h4:0<(rpow (rone r)).num:=mpNum_pos.2 (by rw [h1]; exact Rat.mul_pos (by rw [← rpow_fpr]; exact hp) h3)
 rw [Int.sign_eq_one_of_pos h4]
 rfl
section
variable {r:RQ} (h:MayC r) (hr:RSz 14 r) {m:MQ} (hm:MSz 12 m) (hd:gzero (mdet m)=false) {b:Bool} (h0:gzero (bif b then (mconj (mundo0 m) m.t).d else (mconj (mundo0 m) m.t).c)=false)
include h hd h0 in
theorem im_pos:0<fpr (imX0 r m b) (imX0 r m b):=by
 rw [show fpr (imX0 r m b) (imX0 r m b)=fpr (imQ r (unQ m b) m.t) (imQ r (unQ m b) m.t) from rfl,im_fpr]
 exact Rat.mul_pos (dt_un hd h0) (may_pos h)
include h hr hm hd h0 in
theorem im_may:MayC (rone (imX0 r m b)):=may_told ((im_rsz hr hm h0).mono (by decide)) (im_pos h hd h0)
end
theorem fsq_rnm (f g:RQ) {y z:Rat} (hy:y≠0) (hz:z≠0) (h0:fpr f f*fpr g g≠0):fsq (rnm f y) (rnm g z)=fsq f g:=by
 have e1:fpr (rnm f y) (rnm g z)=fpr f g*y⁻¹*z⁻¹:=by rw [fpr_rnm,fpr_comm,fpr_rnm,fpr_comm]
 have e2:fpr (rnm f y) (rnm f y)=fpr f f*y⁻¹*y⁻¹:=by rw [fpr_rnm,fpr_comm,fpr_rnm]
 have e3:fpr (rnm g z) (rnm g z)=fpr g g*z⁻¹*z⁻¹:=by rw [fpr_rnm,fpr_comm,fpr_rnm]
 have n1:fpr (rnm f y) (rnm f y)*fpr (rnm g z) (rnm g z)≠0:=by
  rw [e2,e3]
  have:=mul_ne (mul_ne (inv_ne hy) (inv_ne hy)) (mul_ne (inv_ne hz) (inv_ne hz))
  have k:=mul_ne h0 this
  intro e
  refine k ?_
  rw [← e]
  grind
 refine eq_of_mul n1 ?_
 have k1:fsq (rnm f y) (rnm g z)*(fpr (rnm f y) (rnm f y)*fpr (rnm g z) (rnm g z))=fpr (rnm f y) (rnm g z)*fpr (rnm f y) (rnm g z):=by unfold fsq; rw [Rat.div_mul_cancel n1]
 have k2:fsq f g*(fpr f f*fpr g g)=fpr f g*fpr f g:=by unfold fsq; rw [Rat.div_mul_cancel h0]
 rw [k1,e1,e2,e3]
 generalize fsq f g=q at *
 generalize y⁻¹=i at *
 generalize z⁻¹=j at *
 grind
theorem fsq_of {f g f' g':RQ} {d:Rat} (hd:d≠0) (h0:fpr f f*fpr g g≠0) (h1:fpr f' g'=d*fpr f g) (h2:fpr f' f'=d*fpr f f) (h3:fpr g' g'=d*fpr g g):fsq f' g'=fsq f g∧fpr f' f'*fpr g' g'≠0:=by
 have n1:fpr f' f'*fpr g' g'≠0:=by
  rw [h2,h3]
  have k:=mul_ne h0 (mul_ne hd hd)
  intro e
  refine k ?_
  rw [← e]
  grind
 refine ⟨eq_of_mul n1 ?_,n1⟩
 have k1:fsq f' g'*(fpr f' f'*fpr g' g')=fpr f' g'*fpr f' g':=by unfold fsq; rw [Rat.div_mul_cancel n1]
 have k2:fsq f g*(fpr f f*fpr g g)=fpr f g*fpr f g:=by unfold fsq; rw [Rat.div_mul_cancel h0]
 rw [k1,h1,h2,h3]
 generalize fsq f g=q at *
 grind
theorem fsq_comm (f g:RQ):fsq f g=fsq g f:=by
 unfold fsq
 rw [fpr_comm f g,Rat.mul_comm (fpr f f)]
theorem ov_fpr {k f g:RQ} (h0:fpr k k≠0):fpr (ovQ k f) (ovQ k g)=1*fpr f g:=by
 have e1:=ovb_mul (g:=f) h0
 have e2:=ovb_mul (g:=g) h0
 rw [ovQ_1,ovQ_1,fpr_pls,fpr_comm _ g,fpr_comm _ k,fpr_pls,fpr_pls,fpr_comm g f,fpr_comm g k]
 generalize ovb k f=x at *
 generalize ovb k g=y at *
 refine eq_of_mul h0 ?_
 grind
theorem fpr_all {r:RQ} (h:∀ s,fpr r s=0):r=⟨0,⟨0,0⟩,0⟩:=by
 have h1:=fpr_two r ⟨0,⟨0,0⟩,1⟩
 have h2:=fpr_two r ⟨0,⟨1,0⟩,0⟩
 have h3:=fpr_two r ⟨0,⟨0,1⟩,0⟩
 have h4:=fpr_two r ⟨1,⟨0,0⟩,0⟩
 rw [h] at h1 h2 h3 h4
 refine mvExt ?_ ?_ ?_ ?_<;>(dsimp only at *; grind)
theorem im_lin (r s:RQ) (x:Rat) (n:MQ) (t:Bool):imQ (pls r s 1 x) n t=pls (imQ r n t) (imQ s n t) 1 x:=by
 obtain ⟨ra,⟨rx,ry⟩,rc⟩:=r
 obtain ⟨sa,⟨sx,sy⟩,sc⟩:=s
 obtain ⟨⟨ax,ay⟩,⟨bx,by'⟩,⟨cx,cy⟩,⟨dx,dy⟩,nt⟩:=n
 cases t<;>(refine mvExt ?_ ?_ ?_ ?_<;>(simp only [imQ,imF,imX,imB,pls,gadd,gsub,gscale,gmul,gconj,gnorm,cond_false,cond_true]; grind))
theorem im_inj {f g:RQ} (hf:MayC f) (hg:MayC g) {n:MQ} {t:Bool} (hd:0<dtN n) (h1:rby (imQ f n t)≠0) (h2:rby (imQ g n t)≠0) (e:rone (imQ f n t)=rone (imQ g n t)):f=g:=by
 generalize hy:rby (imQ f n t)=y at *
 generalize hz:rby (imQ g n t)=z at *
 have e':rnm (imQ f n t) y=rnm (imQ g n t) z:=by
  have:=e
  unfold rone at this
  rw [hy,hz] at this
  exact this
 have hyi:=Rat.mul_inv_cancel y h1
 have hzi:=Rat.mul_inv_cancel z h2
 have c1:=congrArg RQ.a e'
 have c2:=congrArg (fun r:RQ=>r.b.re) e'
 have c3:=congrArg (fun r:RQ=>r.b.im) e'
 have c4:=congrArg RQ.c e'
 simp only [rnm,gscale] at c1 c2 c3 c4
 have hl:imQ (pls f g 1 (-(y*z⁻¹))) n t=⟨0,⟨0,0⟩,0⟩:=by
  rw [im_lin]
  generalize imQ f n t=F at *
  generalize imQ g n t=G at *
  generalize y⁻¹=i at *
  generalize z⁻¹=j at *
  refine mvExt ?_ ?_ ?_ ?_<;>(simp only [pls]; grind)
 have hz0:pls f g 1 (-(y*z⁻¹))=⟨0,⟨0,0⟩,0⟩:=by
  refine fpr_all fun s=>?_
  have:=im_fpr (pls f g 1 (-(y*z⁻¹))) s n t
  rw [hl] at this
  have e0:fpr ⟨0,⟨0,0⟩,0⟩ (imQ s n t)=0:=by
   have:=fpr_two ⟨0,⟨0,0⟩,0⟩ (imQ s n t)
   grind
  rw [e0] at this
  rcases Rat.mul_eq_zero.1 this.symm with k | k
  · exact absurd k (by intro k; rw [k] at hd; exact absurd hd (by decide))
  · exact k
 have hw:y*z⁻¹≠0:=mul_ne h1 (inv_ne h2)
 have hfg:f=rnm g (y*z⁻¹)⁻¹:=by
  have c1:=congrArg RQ.a hz0
  have c2:=congrArg (fun r:RQ=>r.b.re) hz0
  have c3:=congrArg (fun r:RQ=>r.b.im) hz0
  have c4:=congrArg RQ.c hz0
  simp only [pls] at c1 c2 c3 c4
  unfold rnm gscale
  rw [Rat.inv_inv]
  generalize y*z⁻¹=q at *
  refine mvExt ?_ ?_ ?_ ?_<;>(dsimp only; grind)
 have:=hf.one
 rw [hfg,rone_rnm (inv_ne hw),hg.one] at this
 rw [hfg]
 exact this.symm
structure CutV (f g l k:RQ):Prop where
 pNo:∀ {n d a b:Nat},RootB (cuX l k) n d a b→decide (Rat.divInt a b*Rat.divInt a b=cuX l k)=false→ValT ptsF f g (ptNil 230)
 pA:∀ {n d a b:Nat},RootB (cuX l k) n d a b→decide (Rat.divInt a b*Rat.divInt a b=cuX l k)=true→¬ FitG (ctP l k (Rat.divInt a b))→GSz KB (ctP l k (Rat.divInt a b))→ValT ptsF f g (ptNil 4)
 pB:∀ {n d a b:Nat},RootB (cuX l k) n d a b→decide (Rat.divInt a b*Rat.divInt a b=cuX l k)=true→FitP (.fin (ctP l k (Rat.divInt a b)))→¬ FitG (ctQ l k (Rat.divInt a b))→GSz KB (ctQ l k (Rat.divInt a b))→ValT ptsF f g (ptNil 4)
 pSw:∀ {n d a b:Nat},RootB (cuX l k) n d a b→decide (Rat.divInt a b*Rat.divInt a b=cuX l k)=true→FitP (.fin (ctP l k (Rat.divInt a b)))→FitP (.fin (ctQ l k (Rat.divInt a b)))→ptB (.fin (ctQ l k (Rat.divInt a b))) (.fin (ctP l k (Rat.divInt a b)))=false→decide (ordI (.fin (ctQ l k (Rat.divInt a b))) (.fin (ctP l k (Rat.divInt a b)))<0)=true→OwnT ptsF f g (pr2 (.fin (ctQ l k (Rat.divInt a b))) (.fin (ctP l k (Rat.divInt a b)))) ptR2
 pIn:∀ {n d a b:Nat},RootB (cuX l k) n d a b→decide (Rat.divInt a b*Rat.divInt a b=cuX l k)=true→FitP (.fin (ctP l k (Rat.divInt a b)))→FitP (.fin (ctQ l k (Rat.divInt a b)))→ptB (.fin (ctQ l k (Rat.divInt a b))) (.fin (ctP l k (Rat.divInt a b)))=false→decide (ordI (.fin (ctQ l k (Rat.divInt a b))) (.fin (ctP l k (Rat.divInt a b)))<0)=false→OwnT ptsF f g (pr2 (.fin (ctP l k (Rat.divInt a b))) (.fin (ctQ l k (Rat.divInt a b)))) ptR2
section
variable {f g:RQ} (hf:MayC f) (hg:MayC g) (sf:RSz 60 f) (sg:RSz 60 g) (hs:eqRone f g=false)
section
variable (hc:cmpQ (fsq f g) one1 = -1)
include hf hg sf sg hs hc in
theorem cutv_one (hA:axAt f g .one) (h0:g.a≠0) (hn:cuN f≠0):CutV f g f g :=
 { pNo:=fun h ht=>(sPtNoOne hf hg hs hc hA (sf.mono (by decide)) (sg.mono (by decide)) h0 hn h ht).ok
   pA:=fun h ht hP hz=>(sPtBigAOne hf hg hs hc hA (sf.mono (by decide)) (sg.mono (by decide)) h0 hn h ht hP hz).ok
   pB:=fun h ht hP hQ hz=>(sPtBigBOne hf hg hs hc hA (sf.mono (by decide)) (sg.mono (by decide)) h0 hn h ht hP hQ hz).ok
   pSw:=fun h ht hP hQ hne hb=>(oPtOneSw hf hg hs hc hA (sf.mono (by decide)) (sg.mono (by decide)) h0 hn h ht hP hQ hne hb).ok
   pIn:=fun h ht hP hQ hne hb=>(oPtOneIn hf hg hs hc hA (sf.mono (by decide)) (sg.mono (by decide)) h0 hn h ht hP hQ hne hb).ok }
include hf hg sf sg hs hc in
theorem cutv_two (hA:axAt f g .two) (h0:f.a≠0) (hn:cuN g≠0):CutV f g g f :=
 { pNo:=fun h ht=>(sPtNoTwo hf hg hs hc hA (sg.mono (by decide)) (sf.mono (by decide)) h0 hn h ht).ok
   pA:=fun h ht hP hz=>(sPtBigATwo hf hg hs hc hA (sg.mono (by decide)) (sf.mono (by decide)) h0 hn h ht hP hz).ok
   pB:=fun h ht hP hQ hz=>(sPtBigBTwo hf hg hs hc hA (sg.mono (by decide)) (sf.mono (by decide)) h0 hn h ht hP hQ hz).ok
   pSw:=fun h ht hP hQ hne hb=>(oPtTwoSw hf hg hs hc hA (sg.mono (by decide)) (sf.mono (by decide)) h0 hn h ht hP hQ hne hb).ok
   pIn:=fun h ht hP hQ hne hb=>(oPtTwoIn hf hg hs hc hA (sg.mono (by decide)) (sf.mono (by decide)) h0 hn h ht hP hQ hne hb).ok }
include hf hg sf sg hs hc in
theorem cutv_none (hA:axAt f g .none) (hw:wtB (axQ f g)=false) (hw2:decide ((fpr (axQ f g) (axQ f g)).num.sign≤0)=false) (h0:f.a≠0) (hn:cuN (axQ f g)≠0):CutV f g (axQ f g) f :=
 have sa:RSz 123 (axQ f g):=ax60 sf sg
 { pNo:=fun h ht=>(sPtNoNone hf hg hs hc hA hw2 (sa.mono (by decide)) (sf.mono (by decide)) h0 hn h ht).ok
   pA:=fun h ht hP hz=>(sPtBigANone hf hg hs hc hA hw2 (sa.mono (by decide)) (sf.mono (by decide)) h0 hn h ht hP hz).ok
   pB:=fun h ht hP hQ hz=>(sPtBigBNone hf hg hs hc hA hw2 (sa.mono (by decide)) (sf.mono (by decide)) h0 hn h ht hP hQ hz).ok
   pSw:=fun h ht hP hQ hne hb=>(oPtNoneSw hf hg hs hc hA hw2 (sa.mono (by decide)) (sf.mono (by decide)) h0 hn h ht hP hQ hne hb).ok
   pIn:=fun h ht hP hQ hne hb=>(oPtNoneIn hf hg hs hc hA hw2 (sa.mono (by decide)) (sf.mono (by decide)) h0 hn h ht hP hQ hne hb).ok }
end
end
structure NSpec (P:Program) where
 f:FuncId
 en:Enters P f
 args:List SV
 src:Ob
 res:SV
 news:List Thing
 ok:∀ β w,src.holds β w (β 0)→Calls P f (args.map (SV.den β)).toArray w fun e w'=>∃ xs:List Pl,(∀ x∈xs,∀ c,x.F c→w.heap.size≤c)∧e=.returned (res.den (extE β 1 xs))∧newHold w' news xs∧Below w.heap.size w w'
 cl:(src.of (fun _=>false)&&args.all (SV.of fun k=>Nat.beq k 0)&&res.of fun k=>Nat.ble 1 k&&Nat.blt k (1+news.length))=true
def NSpec.e {P:Program} (S:NSpec P):Ev P:=.dyn (fun o _ _=>isCallB o) fun _ xs ob=>lit (bkOfY xs) fun i=>lit ob.length fun n =>
 .call S.f S.en (fun β=>(S.args.map (SV.den fun _=>β i)).toArray) [(i,S.src)] n (S.res.ren fun k=>n+(k-1)) S.news (fun β w h=>by
  have hc:=S.cl
  simp only [Bool.and_eq_true] at hc
  have h1:S.src.holds β w (β i):=h _ (List.mem_singleton.2 rfl)
  refine (S.ok (fun _=>β i) w (Ob.holds_congr (q:=fun _=>false) (fun k hk=>by cases hk) _ hc.1.1 h1)).mono fun e w' ⟨xs,k1,k2,k3,k4⟩=>⟨xs,fun x hx c hc=>.inl (k1 x hx c hc),?_,k3,k4⟩
  rw [k2,SV.den_ren]
  congr 1
  refine SV.den_congr (fun k hk=>?_) _ hc.2
  have hlen:=(newHold_get k3).1
  rw [Bool.and_eq_true,Nat.ble_eq,Nat.blt_eq] at hk
  have h5:k-1<xs.length:=by omega
  rw [extE_in (List.getElem?_eq_getElem h5)]
  have:=extE_in (β:=fun _=>β i) (n:=1) (List.getElem?_eq_getElem h5)
  rw [show 1+(k-1)=k by omega] at this
  exact this)
def RSpec.eS {P:Program} (S:RSpec P):Ev P:=.dyn (fun o _ _=>isCallB o) fun _ xs ob=>lit (bkOf xs) fun i=>lit ob.length fun n =>
 .call S.f S.en (fun β=>(S.args.map (SV.den fun _=>β i)).toArray) [(i,S.src)] n (S.res.ren fun _=>i) [] (fun β w h=>by
  have hc:=S.cl
  simp only [Bool.and_eq_true] at hc
  obtain ⟨c1,c2,c3⟩:=hc
  have h1:S.src.holds β w (β i):=h _ (List.mem_singleton.2 rfl)
  refine (S.ok (fun _=>β i) w (Ob.holds_congr (q:=fun _=>false) (fun k hk=>by cases hk) _ c1 h1)).mono fun e w' ⟨k1,k2⟩=>⟨[],(fun _ h=>by cases h),?_,trivial,k2⟩
  rw [k1,extE_nil,SV.den_ren])
theorem row_pt {cur:Array Value} {n:Nat} {c0:Value} {b1:Bool} {r:List Value} (h:cur.toList.take n=c0::.bool b1::r):∃ l:List Value,cur=(c0::.bool b1::l).toArray:=by
 refine ⟨r++cur.toList.drop n,Array.ext' ?_⟩
 have h2:=List.take_append_drop n cur.toList
 rw [h] at h2
 exact h2.symm
abbrev pl1 (p0:Pt):List Cd:=plCd p0
abbrev rs1A:List SV:=[.one (.c (.b (.s 0 0 1 1)))]
def rs1O (p0:Pt):List (Nat × Ob):=[(6,.row [.b (.v (.bool (pI p0))),.b (.z 2 0),.b (.z 3 0)] PLT 1 3),(2,(ratM (pG p0).re).ob),(3,(ratM (pG p0).im).ob)]
noncomputable def rs1E {p0:Pt} (hp0:FitP p0):List (Ev Tryz.prog):=[(sSpotP p0 hp0).e,.app appP]
theorem rs1_eqs {p0:Pt} (hp0:FitP p0) (β:Env):(allS Tryz.prog Tryz.f278 rs1A [(pr1 p0)] (rs1E hp0) [] 800 (.tup [.c (.b (.r 6 1)),.c (.b (.v (.bool true)))]) (rs1O p0) β).map Prod.fst=(allS Tryz.prog Tryz.f278 rs1A [(pr1 p0)] (rs1E hp0) [] 800 (.tup [.c (.b (.r 6 1)),.c (.b (.v (.bool true)))]) (rs1O p0) β).map Prod.snd:=by kernel_rfl
theorem rspots1_ok {p0:Pt} (hp0:FitP p0) (β:Env) (w:World) (hh:(pr1 p0).holds β w (β 0)) :
  Calls Tryz.prog 278 (rs1A.map (SV.den β)).toArray w fun e u=>∃ xs:List Pl,(∀ x∈xs,∀ c,x.F c→w.heap.size≤c)∧e=.returned ((SV.tup [.c (.b (.y 1 3 1)),.c (.b (.v (.bool true)))]).den (extE β 1 xs))∧newHold u [rowT PLT (pl1 p0)] xs∧Below w.heap.size w u:=by
 refine (sx (P:=Tryz.prog) rs1A [(pr1 p0)] (rs1E hp0) [] 800 (.tup [.c (.b (.r 6 1)),.c (.b (.v (.bool true)))]) (rs1O p0) Tryz.func278 hmA (fun β=>ok_of_maps (rs1_eqs hp0 β)) (by kernel_rfl) (by kernel_rfl) β w (fun k o ho=>?_)).mono ?_
 · cases k with
   | zero=>simp only [List.getElem?_cons_zero] at ho; obtain rfl:=Option.some.inj ho; exact hh
   | succ k=>simp at ho
 · rintro e u ⟨β',q',obj,e1,rfl,e2,e4,e5,g⟩
   obtain ⟨hone0,cur0,hcur0,hcl0,hn0,hcm0,hsz0,htake0⟩:=hh
   obtain ⟨l0,hl0⟩:=row_pt htake0
   have hnew:∀ y∈rs1O p0,∀ c,(β' y.1).F c→c≠(β 0).b→w.heap.size≤c:=fun y hy c hc hne=>by
    rcases e4 y hy c hc with h | ⟨i,hi,h⟩
    · exact h
    · obtain rfl:i=0:=by simp only [List.length_singleton] at hi; omega
      exact absurd ((hone0.1 c).1 h) hne
   have hu:u.heap[(β 0).b]?=some (.cells cur0 PTT (0,0)):=by rw [g.bel.block _ (heap_lt hcur0)]; exact hcur0
   rw [hl0] at hu
   have hrat:∀ (k:Nat) (x:Rat),(k,(ratM x).ob)∈rs1O p0→OR0 x u (β' k)∧∀ c,(β' k).F c→w.heap.size≤c:=fun k x hk=>by
    have h:OR0 x u (β' k):=e5 _ hk
    refine ⟨h,fun c hc=>?_⟩
    rcases h with ⟨_,h2,_⟩ | ⟨b,hb,hx⟩
    · exact absurd hc (h2 c)
    · have ec:=(hb.2 c).1 hc
      subst ec
      refine hnew _ hk c hc fun e=>?_
      rw [e] at hx
      exact pt_no_rat hu hx
   obtain ⟨o2,n2⟩:=hrat 2 (pG p0).re (by simp [rs1O])
   obtain ⟨o3,n3⟩:=hrat 3 (pG p0).im (by simp [rs1O])
   obtain ⟨hone,cur,hcur,hcl,hn,hcm,hsz,htake⟩:=e5 (6,.row [.b (.v (.bool (pI p0))),.b (.z 2 0),.b (.z 3 0)] PLT 1 3) (by simp [rs1O])
   have hbR:w.heap.size≤(β' 6).b:=hnew _ (by simp [rs1O]) _ ((hone.1 _).2 rfl) fun e=>by
    rw [e,hu] at hcur
    have:=(Obj.cells.inj (Option.some.inj hcur)).2.1
    exact absurd this (by decide)
   refine ⟨[⟨(β' 6).b,fun i=>match i with | 1=>(β' 2).v 0 | 2=>(β' 3).v 0 | 3=>some ⟨(β' 6).b,0,none⟩ | _=>none,fun _=>(β' 6).c 0,fun c=>c=(β' 6).b∨(β' 2).F c∨(β' 3).F c,fun _=>undef⟩],fun x hx c hc=>?_,rfl,⟨⟨⟨.inl rfl,cur,hcur,?_⟩,⟨⟨trivial,or_cd o2 rfl fun c hc=>.inr (.inl hc),or_cd o3 rfl fun c hc=>.inr (.inr (hc)),trivial⟩,rfl⟩,fun c hc=>?_⟩,trivial⟩,g.bel⟩
   · obtain rfl:=List.mem_singleton.1 hx
     rcases hc with rfl | hc | hc
     · exact hbR
     · exact n2 c hc
     · exact n3 c hc
   · have:(pl1 p0).length=1*3:=rfl
     rw [this,htake]
     rfl
   · rcases hc with rfl | hc | hc
     · exact heap_lt hcur
     · exact (or_stable _).lt u _ o2 c hc
     · exact (or_stable _).lt u _ o3 c hc
noncomputable def sRSpots1 {p0:Pt} (hp0:FitP p0):NSpec Tryz.prog :=
 ⟨278,Tryz.call278,rs1A,pr1 p0,.tup [.c (.b (.y 1 3 1)),.c (.b (.v (.bool true)))],[rowT PLT (pl1 p0)],rspots1_ok hp0,by kernel_rfl⟩
abbrev rs2A:List SV:=[.one (.c (.b (.s 0 0 2 2)))]
def rs2O (p0 p1:Pt):List (Nat × Ob):=[(12,.row [.b (.v (.bool (pI p0))),.b (.z 2 0),.b (.z 3 0),.b (.v (.bool (pI p1))),.b (.z 8 0),.b (.z 9 0)] PLT 2 3),(2,(ratM (pG p0).re).ob),(3,(ratM (pG p0).im).ob),(8,(ratM (pG p1).re).ob),(9,(ratM (pG p1).im).ob)]
noncomputable def rs2E {p0 p1:Pt} (hp0:FitP p0) (hp1:FitP p1):List (Ev Tryz.prog):=[(sSpotP p0 hp0).e,.app appP,(sSpotP p1 hp1).e,.app appP]
theorem rs2_eqs {p0 p1:Pt} (hp0:FitP p0) (hp1:FitP p1) (β:Env):(allS Tryz.prog Tryz.f278 rs2A [(pr2 p0 p1)] (rs2E hp0 hp1) [] 800 (.tup [.c (.b (.r 12 2)),.c (.b (.v (.bool true)))]) (rs2O p0 p1) β).map Prod.fst=(allS Tryz.prog Tryz.f278 rs2A [(pr2 p0 p1)] (rs2E hp0 hp1) [] 800 (.tup [.c (.b (.r 12 2)),.c (.b (.v (.bool true)))]) (rs2O p0 p1) β).map Prod.snd:=by kernel_rfl
theorem rspots2_ok {p0 p1:Pt} (hp0:FitP p0) (hp1:FitP p1) (β:Env) (w:World) (hh:(pr2 p0 p1).holds β w (β 0)) :
  Calls Tryz.prog 278 (rs2A.map (SV.den β)).toArray w fun e u=>∃ xs:List Pl,(∀ x∈xs,∀ c,x.F c→w.heap.size≤c)∧e=.returned ((SV.tup [.c (.b (.y 1 6 2)),.c (.b (.v (.bool true)))]).den (extE β 1 xs))∧newHold u [rowT PLT (pl2 p0 p1)] xs∧Below w.heap.size w u:=by
 refine (sx (P:=Tryz.prog) rs2A [(pr2 p0 p1)] (rs2E hp0 hp1) [] 800 (.tup [.c (.b (.r 12 2)),.c (.b (.v (.bool true)))]) (rs2O p0 p1) Tryz.func278 hmA (fun β=>ok_of_maps (rs2_eqs hp0 hp1 β)) (by kernel_rfl) (by kernel_rfl) β w (fun k o ho=>?_)).mono ?_
 · cases k with
   | zero=>simp only [List.getElem?_cons_zero] at ho; obtain rfl:=Option.some.inj ho; exact hh
   | succ k=>simp at ho
 · rintro e u ⟨β',q',obj,e1,rfl,e2,e4,e5,g⟩
   obtain ⟨hone0,cur0,hcur0,hcl0,hn0,hcm0,hsz0,htake0⟩:=hh
   obtain ⟨l0,hl0⟩:=row_pt htake0
   have hnew:∀ y∈rs2O p0 p1,∀ c,(β' y.1).F c→c≠(β 0).b→w.heap.size≤c:=fun y hy c hc hne=>by
    rcases e4 y hy c hc with h | ⟨i,hi,h⟩
    · exact h
    · obtain rfl:i=0:=by simp only [List.length_singleton] at hi; omega
      exact absurd ((hone0.1 c).1 h) hne
   have hu:u.heap[(β 0).b]?=some (.cells cur0 PTT (0,0)):=by rw [g.bel.block _ (heap_lt hcur0)]; exact hcur0
   rw [hl0] at hu
   have hrat:∀ (k:Nat) (x:Rat),(k,(ratM x).ob)∈rs2O p0 p1→OR0 x u (β' k)∧∀ c,(β' k).F c→w.heap.size≤c:=fun k x hk=>by
    have h:OR0 x u (β' k):=e5 _ hk
    refine ⟨h,fun c hc=>?_⟩
    rcases h with ⟨_,h2,_⟩ | ⟨b,hb,hx⟩
    · exact absurd hc (h2 c)
    · have ec:=(hb.2 c).1 hc
      subst ec
      refine hnew _ hk c hc fun e=>?_
      rw [e] at hx
      exact pt_no_rat hu hx
   obtain ⟨o2,n2⟩:=hrat 2 (pG p0).re (by simp [rs2O])
   obtain ⟨o3,n3⟩:=hrat 3 (pG p0).im (by simp [rs2O])
   obtain ⟨o8,n8⟩:=hrat 8 (pG p1).re (by simp [rs2O])
   obtain ⟨o9,n9⟩:=hrat 9 (pG p1).im (by simp [rs2O])
   obtain ⟨hone,cur,hcur,hcl,hn,hcm,hsz,htake⟩:=e5 (12,.row [.b (.v (.bool (pI p0))),.b (.z 2 0),.b (.z 3 0),.b (.v (.bool (pI p1))),.b (.z 8 0),.b (.z 9 0)] PLT 2 3) (by simp [rs2O])
   have hbR:w.heap.size≤(β' 12).b:=hnew _ (by simp [rs2O]) _ ((hone.1 _).2 rfl) fun e=>by
    rw [e,hu] at hcur
    have:=(Obj.cells.inj (Option.some.inj hcur)).2.1
    exact absurd this (by decide)
   refine ⟨[⟨(β' 12).b,fun i=>match i with | 1=>(β' 2).v 0 | 2=>(β' 3).v 0 | 4=>(β' 8).v 0 | 5=>(β' 9).v 0 | 6=>some ⟨(β' 12).b,0,none⟩ | _=>none,fun _=>(β' 12).c 0,fun c=>c=(β' 12).b∨(β' 2).F c∨(β' 3).F c∨(β' 8).F c∨(β' 9).F c,fun _=>undef⟩],fun x hx c hc=>?_,rfl,⟨⟨⟨.inl rfl,cur,hcur,?_⟩,⟨⟨trivial,or_cd o2 rfl fun c hc=>.inr (.inl hc),or_cd o3 rfl fun c hc=>.inr (.inr (.inl hc)),trivial,or_cd o8 rfl fun c hc=>.inr (.inr (.inr (.inl hc))),or_cd o9 rfl fun c hc=>.inr (.inr (.inr (.inr (hc)))),trivial⟩,rfl⟩,fun c hc=>?_⟩,trivial⟩,g.bel⟩
   · obtain rfl:=List.mem_singleton.1 hx
     rcases hc with rfl | hc | hc | hc | hc
     · exact hbR
     · exact n2 c hc
     · exact n3 c hc
     · exact n8 c hc
     · exact n9 c hc
   · have:(pl2 p0 p1).length=2*3:=rfl
     rw [this,htake]
     rfl
   · rcases hc with rfl | hc | hc | hc | hc
     · exact heap_lt hcur
     · exact (or_stable _).lt u _ o2 c hc
     · exact (or_stable _).lt u _ o3 c hc
     · exact (or_stable _).lt u _ o8 c hc
     · exact (or_stable _).lt u _ o9 c hc
noncomputable def sRSpots2 {p0 p1:Pt} (hp0:FitP p0) (hp1:FitP p1):NSpec Tryz.prog :=
 ⟨278,Tryz.call278,rs2A,pr2 p0 p1,.tup [.c (.b (.y 1 6 2)),.c (.b (.v (.bool true)))],[rowT PLT (pl2 p0 p1)],rspots2_ok hp0 hp1,by kernel_rfl⟩
section
variable {r:RQ} {p:Pt} (h:RSz KC r) (hp:FitP p) (h1:(!((sidQ r p).num.sign==0))=false)
noncomputable def sIdxOne:OSpec Tryz.prog :=
 OSpec.auto Tryz.call374 [.one (.c (.b (.y 0 3 1))),onF] (onO r (pl1 p)) (.one (nI' (-1))) []
  [dIdxP PLT (pl1 p),dPlace PLT (pl1 p),(sOn1 h hp h1).e] [] 800 Tryz.func374 hmA (by kernel_rfl) (fun β=>by kernel_rfl)
noncomputable def sHasOne:OSpec Tryz.prog :=
 OSpec.auto Tryz.call279 [.one (.c (.b (.y 0 3 1))),onF] (onO r (pl1 p)) (tB' false) [] [(sIdxOne h hp h1).e] [] 400 Tryz.func279 hmA (by kernel_rfl) (fun β=>by kernel_rfl)
end
abbrev rOnR:SV:=.tup [.c (.b (.v (.bool true))),nI' 0]
noncomputable def sROn1 {r:RQ} {p:Pt} (h:MayC r) (hp:FitP p) (h1:(!((sidQ r p).num.sign==0))=false):RSpec Tryz.prog :=
 ⟨118,Tryz.call118,[.one (.a (cC r)),.one (.c (.b (.s 0 0 1 1)))],pr1 p,rOnR,fun β w hh =>
  rspec_ok [(sWheel h).e,(sRSpots1 hp).e,(sHasOne h.sz hp h1).e] [] 800 Tryz.func118 hmA (fun β=>by kernel_rfl) (by kernel_rfl) (by kernel_rfl) β w hh,by kernel_rfl⟩
noncomputable def sROn2 {r:RQ} {p q:Pt} (h:MayC r) (hp:FitP p) (hq:FitP q) (h1:(!((sidQ r p).num.sign==0))=false) (h2:(!((sidQ r q).num.sign==0))=false):RSpec Tryz.prog :=
 ⟨118,Tryz.call118,[.one (.a (cC r)),.one (.c (.b (.s 0 0 2 2)))],pr2 p q,rOnR,fun β w hh =>
  rspec_ok [(sWheel h).e,(sRSpots2 hp hq).e,(sHas2 h.sz hp hq h1 h2).e] [] 800 Tryz.func118 hmA (fun β=>by kernel_rfl) (by kernel_rfl) (by kernel_rfl) β w hh,by kernel_rfl⟩
def sm14 (p:Cp):Bool:=smB 14 p.a p.c&&smB 14 p.b p.b'
noncomputable def sm14E (p:Cp) {b:Bool} (h:sm14 p=b):Ev Tryz.prog:=(sR4Small2 14 p.a p.c p.b p.b' h).e
abbrev fw3S:List SV:=[.one (svI 14),.one (.c (.b (.s 0 0 3 3)))]
theorem fws_ok (p q r:Cp) {b:Bool} (hb:(sm14 p&&(sm14 q&&sm14 r))=b) (β:Env) (w:World) (hh:(Ob.box (c4 p++c4 q++c4 r) CIT).holds β w (β 0)) :
  Calls Tryz.prog 103 (fw3S.map (SV.den β)).toArray w fun e w'=>e=.returned (.bool b)∧Below w.heap.size w w':=by
 cases h1:sm14 p with
 | false =>
  rw [h1] at hb
  subst hb
  exact bspec_ok [sm14E p h1] [(4,20)] 800 Tryz.func103 hmA (fun β=>by kernel_rfl) (by kernel_rfl) (fun β=>rfl) β w hh
 | true =>
  rw [h1] at hb
  cases h2:sm14 q with
  | false =>
   rw [h2] at hb
   subst hb
   exact bspec_ok [sm14E p h1,sm14E q h2] [(4,20)] 800 Tryz.func103 hmA (fun β=>by kernel_rfl) (by kernel_rfl) (fun β=>rfl) β w hh
  | true =>
   rw [h2] at hb
   have h3:sm14 r=b:=hb
   cases b<;>exact bspec_ok [sm14E p h1,sm14E q h2,sm14E r h3] [(4,20)] 800 Tryz.func103 hmA (fun β=>by kernel_rfl) (by kernel_rfl) (fun β=>rfl) β w hh
noncomputable def sFwS (p q r:Cp) {b:Bool} (hb:(sm14 p&&(sm14 q&&sm14 r))=b):BSpec Tryz.prog :=
 ⟨103,Tryz.call103,fw3S,c4 p++c4 q++c4 r,CIT,.bool b,fws_ok p q r hb,by kernel_rfl,fun _=>rfl⟩
def fewB3 (p q r:Cp):Bool:=(sm14 p&&(sm14 q&&sm14 r))&&(p.B&&(q.B&&r.B))
abbrev fw3A:List SV:=[.one (.c (.b (.s 0 0 3 3)))]
theorem few3_ok (p q r:Cp) {b:Bool} (hb:fewB3 p q r=b) (β:Env) (w:World) (hh:(Ob.box (c4 p++c4 q++c4 r) CIT).holds β w (β 0)) :
  Calls Tryz.prog 112 (fw3A.map (SV.den β)).toArray w fun e w'=>e=.returned (.bool b)∧Below w.heap.size w w':=by
 unfold fewB3 at hb
 cases h1:(sm14 p&&(sm14 q&&sm14 r)) with
 | false =>
  rw [h1] at hb
  subst hb
  exact bspec_ok [(sFwS p q r h1).e] [] 800 Tryz.func112 hmA (fun β=>by kernel_rfl) (by kernel_rfl) (fun β=>rfl) β w hh
 | true =>
  rw [h1] at hb
  have h2:(p.B&&(q.B&&r.B))=b:=hb
  cases b<;>exact bspec_ok [(sFwS p q r h1).e,(sMayThree p q r h2).e] [] 800 Tryz.func112 hmA (fun β=>by kernel_rfl) (by kernel_rfl) (fun β=>rfl) β w hh
noncomputable def sFew3 (p q r:Cp) {b:Bool} (hb:fewB3 p q r=b):BSpec Tryz.prog :=
 ⟨112,Tryz.call112,fw3A,c4 p++c4 q++c4 r,CIT,.bool b,few3_ok p q r hb,by kernel_rfl,fun _=>rfl⟩
structure LoD (f g h:RQ) (s t:Rat):Prop where
 hf:MayC f
 hg:MayC g
 hh:MayC h
 hs:Fit s
 ht:Fit t
 fw:fewB3 (.ok f hf) (.ok g hg) (.ok h hh)=true
 sm:smB 14 (fR s) (fR t)=true
 wa:wtB (ovQ f g)=false
 ma:MayC (rone (ovQ f g))
 wb:wtB (ovQ f (rone (ovQ f g)))=false
 eb:rone (ovQ f (rone (ovQ f g)))=g
 wc:wtB (ovQ f f)=false
section
variable {f g h:RQ} {s t:Rat} (D:LoD f g h s t)
abbrev okC (r:RQ):SV:=.tup [.a (cC r),nI' 0]
end
inductive Mw5 where
 | a
 | b
 | c
 | d
 | ok
def Mw5.at (k:Nat) (x y:R4):Mw5→Prop
 | .a=>big k x.s=true
 | .b=>big k x.s=false∧big k x.t=true
 | .c=>big k x.s=false∧big k x.t=false∧big k y.s=true
 | .d=>big k x.s=false∧big k x.t=false∧big k y.s=false∧big k y.t=true
 | .ok=>big k x.s=false∧big k x.t=false∧big k y.s=false∧big k y.t=false
def Mw5.yes:Mw5→Bool
 | .ok=>true
 | _=>false
theorem Mw5.all (k:Nat) (x y:R4):∃ t:Mw5,t.at k x y∧t.yes=smB k x y:=by
 unfold smB
 cases h1:big k x.s with
 | true=>exact ⟨.a,h1,rfl⟩
 | false=>cases h2:big k x.t with
  | true=>exact ⟨.b,⟨h1,h2⟩,rfl⟩
  | false=>cases h3:big k y.s with
   | true=>exact ⟨.c,⟨h1,h2,h3⟩,rfl⟩
   | false=>cases h4:big k y.t with
    | true=>exact ⟨.d,⟨h1,h2,h3,h4⟩,rfl⟩
    | false=>exact ⟨.ok,⟨h1,h2,h3,h4⟩,rfl⟩
def mwW (k:Nat) (x y:R4):(t:Mw5)→t.at k x y→List (Ev Tryz.prog)
 | .a,h=>[evBig k x.s 23 true h]
 | .b,h=>[evBig k x.s 23 false h.1,evBig k x.t 31 true h.2]
 | .c,h=>[evBig k x.s 23 false h.1,evBig k x.t 31 false h.2.1,evBig k y.s 40 true h.2.2]
 | .d,h=>[evBig k x.s 23 false h.1,evBig k x.t 31 false h.2.1,evBig k y.s 40 false h.2.2.1,evBig k y.t 49 true h.2.2.2]
 | .ok,h=>[evBig k x.s 23 false h.1,evBig k x.t 31 false h.2.1,evBig k y.s 40 false h.2.2.1,evBig k y.t 49 false h.2.2.2]
abbrev mw4A (k:Nat):List SV:=[.one (.c (.b (.v (.int .i64 (k:Int))))),.one (.c (.b (.s 0 0 4 4)))]
theorem small44_ok (k:Nat) (x y x' y' x2 y2 x3 y3:R4) {r:Bool} (hr:(smB k x y&&(smB k x' y'&&(smB k x2 y2&&smB k x3 y3)))=r) (β:Env) (w:World) (hh:(Ob.box (x.L++y.L++x'.L++y'.L++x2.L++y2.L++x3.L++y3.L) 49).holds β w (β 0)) :
  Calls Tryz.prog 67 ((mw4A k).map (SV.den β)).toArray w fun e w'=>e=.returned (.bool r)∧Below w.heap.size w w':=by
 obtain ⟨t,ht,et⟩:=Mw5.all k x y
 obtain ⟨t',ht',et'⟩:=Mw5.all k x' y'
 obtain ⟨t2,ht2,et2⟩:=Mw5.all k x2 y2
 obtain ⟨t3,ht3,et3⟩:=Mw5.all k x3 y3
 rw [← hr,← et,← et',← et2,← et3]
 cases t
 case ok =>
  cases t'
  case ok =>
   cases t2
   case ok=>cases t3<;>exact bspec_ok (mwW k x y .ok ht++mwW k x' y' .ok ht'++mwW k x2 y2 .ok ht2++mwW k x3 y3 _ ht3) [] 1600 Tryz.func67 hmA (fun β=>by kernel_rfl) (by kernel_rfl) (fun β=>rfl) β w hh
   all_goals exact bspec_ok (mwW k x y .ok ht++mwW k x' y' .ok ht'++mwW k x2 y2 _ ht2) [] 1600 Tryz.func67 hmA (fun β=>by kernel_rfl) (by kernel_rfl) (fun β=>rfl) β w hh
  all_goals exact bspec_ok (mwW k x y .ok ht++mwW k x' y' _ ht') [] 1600 Tryz.func67 hmA (fun β=>by kernel_rfl) (by kernel_rfl) (fun β=>rfl) β w hh
 all_goals exact bspec_ok (mwW k x y _ ht) [] 1600 Tryz.func67 hmA (fun β=>by kernel_rfl) (by kernel_rfl) (fun β=>rfl) β w hh
def sR4Small4 (k:Nat) (x y x' y' x2 y2 x3 y3:R4) {b:Bool} (hb:(smB k x y&&(smB k x' y'&&(smB k x2 y2&&smB k x3 y3)))=b):BSpec Tryz.prog :=
 ⟨67,Tryz.call67,mw4A k,x.L++y.L++x'.L++y'.L++x2.L++y2.L++x3.L++y3.L,49,.bool b,small44_ok k x y x' y' x2 y2 x3 y3 hb,by kernel_rfl,fun _=>rfl⟩
theorem mw_sub0 {z w:GQ}:gzero (gsub z w)=true↔z=w:=by
 rw [gzero_iff]
 constructor
 · rintro ⟨h1,h2⟩
   simp only [gsub] at h1 h2
   exact GQ.ext2 (by grind) (by grind)
 · rintro rfl
   simp only [gsub]
   exact ⟨by grind,by grind⟩
abbrev mgL (a b c d:Gn) (t:Bool):List Lf:=rL a.x++rL a.y++rL b.x++rL b.y++rL c.x++rL c.y++rL d.x++rL d.y++[.b (.v (.bool t))]
abbrev mgS (a b c d:Gn) (t:Bool):SV:=.one (.a (mgL a b c d t))
def gB (z w:GQ):Bool:=(fR z.re).eq (fR w.re)&&((fR z.im).eq (fR w.im)&&true)
theorem gB_iff {z w:GQ}:gB z w=true↔z=w:=by
 unfold gB
 simp only [Bool.and_true,Bool.and_eq_true,R4.eq_iff]
 constructor
 · rintro ⟨h1,h2⟩
   exact GQ.ext2 (fR_inj h1) (fR_inj h2)
 · rintro rfl
   exact ⟨rfl,rfl⟩
def gEq (z w:GQ) {r:Bool} (h:gB z w=r):Ev Tryz.prog:=eqEvG (fR z.re) (fR z.im) (fR w.re) (fR w.im) r h
abbrev g1':GQ:=gint 1 0
abbrev g0':GQ:=gint 0 0
def CkV (a b c d:Gn) (t:Bool) (k:Int):Prop:=∀ (β:Env) (w:World),Calls Tryz.prog 119 (([mgS a b c d t]:List SV).map (SV.den β)).toArray w fun e w'=>∃ xs:List Pl,freshS β w 0 xs∧e=.returned ((SV.one (nI' k)).den (extE β 0 xs))∧newHold w' [] xs∧Below w.heap.size w w'
def sR8Ck {a b c d:Gn} {t:Bool} {k:Int} (h:CkV a b c d t k):Spec Tryz.prog :=
 ⟨119,Tryz.call119,[mgS a b c d t],[],.one (nI' k),[],fun β w _=>h β w,by kernel_rfl⟩
theorem mw_no (β:Env) (w:World):∀ (k:Nat) (t:Thing),([]:List Thing)[k]?=some t→t.D w (β k):=fun k t h=>by simp at h
theorem ck_no {a b c d:Gn} {t:Bool} (h:(a.B&&(b.B&&(c.B&&d.B)))=false):CkV a b c d t 2:=fun β w=>by
 cases h1:a.B with
 | false=>exact spec_auto (args:=[mgS a b c d t]) (obs:=[]) (res:=.one (nI' 2)) (news:=[]) (evs:=[(sR4MayG a h1).e]) (Ns:=[(3,21)]) (m:=800) Tryz.func119 hmA (fun β=>by kernel_rfl) (by kernel_rfl) β w (mw_no β w)
 | true=>cases h2:b.B with
  | false=>exact spec_auto (args:=[mgS a b c d t]) (obs:=[]) (res:=.one (nI' 2)) (news:=[]) (evs:=[(sR4MayG a h1).e,(sR4MayG b h2).e]) (Ns:=[(3,21)]) (m:=800) Tryz.func119 hmA (fun β=>by kernel_rfl) (by kernel_rfl) β w (mw_no β w)
  | true=>cases h3:c.B with
   | false=>exact spec_auto (args:=[mgS a b c d t]) (obs:=[]) (res:=.one (nI' 2)) (news:=[]) (evs:=[(sR4MayG a h1).e,(sR4MayG b h2).e,(sR4MayG c h3).e]) (Ns:=[(3,21)]) (m:=800) Tryz.func119 hmA (fun β=>by kernel_rfl) (by kernel_rfl) β w (mw_no β w)
   | true=>cases h4:d.B with
    | false=>exact spec_auto (args:=[mgS a b c d t]) (obs:=[]) (res:=.one (nI' 2)) (news:=[]) (evs:=[(sR4MayG a h1).e,(sR4MayG b h2).e,(sR4MayG c h3).e,(sR4MayG d h4).e]) (Ns:=[(3,21)]) (m:=800) Tryz.func119 hmA (fun β=>by kernel_rfl) (by kernel_rfl) β w (mw_no β w)
    | true=>rw [h1,h2,h3,h4] at h; cases h
section
variable (q:MQ) (h:FitM q)
abbrev ckGs (q:MQ) (h:FitM q) (k:Int):Prop:=CkV (.ok q.a h.1) (.ok q.b h.2.1) (.ok q.c h.2.2.1) (.ok q.d h.2.2.2) q.t k
noncomputable def ckM:List (Ev Tryz.prog):=[(sR4MayG (.ok q.a h.1) rfl).e,(sR4MayG (.ok q.b h.2.1) rfl).e,(sR4MayG (.ok q.c h.2.2.1) rfl).e,(sR4MayG (.ok q.d h.2.2.2) rfl).e,sR8unit.e]
theorem ckq_sz {q:MQ} (h:FitM q):MSz KD q:=⟨h.1.gsz.mono (by decide),h.2.1.gsz.mono (by decide),h.2.2.1.gsz.mono (by decide),h.2.2.2.gsz.mono (by decide)⟩
noncomputable def ckZ {b:Bool} (hd:gzero (mdet q)=b):List (Ev Tryz.prog):=[(sR8Det (ckq_sz h)).e,(sR4Zero (mdet q) hd).e]
theorem ck_q:(MayQ q∧ckGs q h 0)∨ckGs q h 2:=by
 cases r1:gB q.c g1' with
 | true =>
  cases hd:gzero (mdet q) with
  | false =>
   refine .inl ⟨⟨h,hd,.inl (mw_sub0.2 (gB_iff.1 r1))⟩,fun β w=>?_⟩
   exact spec_auto (evs:=ckM q h++[gEq q.c g1' r1]++ckZ q h hd) (Ns:=[(3,21)]) (m:=800) Tryz.func119 hmA (fun β=>by kernel_rfl) (by kernel_rfl) β w (mw_no β w)
  | true =>
   refine .inr fun β w=>?_
   exact spec_auto (evs:=ckM q h++[gEq q.c g1' r1]++ckZ q h hd) (Ns:=[(3,21)]) (m:=800) Tryz.func119 hmA (fun β=>by kernel_rfl) (by kernel_rfl) β w (mw_no β w)
 | false =>
  cases r2:gB q.c g0' with
  | false =>
   refine .inr fun β w=>?_
   exact spec_auto (evs:=ckM q h++[gEq q.c g1' r1,sR8zero.e,gEq q.c g0' r2]) (Ns:=[(3,21)]) (m:=800) Tryz.func119 hmA (fun β=>by kernel_rfl) (by kernel_rfl) β w (mw_no β w)
  | true =>
   cases r3:gB q.d g1' with
   | false =>
    refine .inr fun β w=>?_
    exact spec_auto (evs:=ckM q h++[gEq q.c g1' r1,sR8zero.e,gEq q.c g0' r2,sR8unit.e,gEq q.d g1' r3]) (Ns:=[(3,21)]) (m:=800) Tryz.func119 hmA (fun β=>by kernel_rfl) (by kernel_rfl) β w (mw_no β w)
   | true =>
    cases hd:gzero (mdet q) with
    | false =>
     have z0:gzero q.c=true:=by rw [gB_iff.1 r2]; rfl
     refine .inl ⟨⟨h,hd,.inr ⟨z0,mw_sub0.2 (gB_iff.1 r3)⟩⟩,fun β w=>?_⟩
     exact spec_auto (evs:=ckM q h++[gEq q.c g1' r1,sR8zero.e,gEq q.c g0' r2,sR8unit.e,gEq q.d g1' r3]++ckZ q h hd) (Ns:=[(3,21)]) (m:=800) Tryz.func119 hmA (fun β=>by kernel_rfl) (by kernel_rfl) β w (mw_no β w)
    | true =>
     refine .inr fun β w=>?_
     exact spec_auto (evs:=ckM q h++[gEq q.c g1' r1,sR8zero.e,gEq q.c g0' r2,sR8unit.e,gEq q.d g1' r3]++ckZ q h hd) (Ns:=[(3,21)]) (m:=800) Tryz.func119 hmA (fun β=>by kernel_rfl) (by kernel_rfl) β w (mw_no β w)
end
section
variable {r:RQ} (h:MayC r) (hr:RSz 14 r) {m:MQ} (hm:MayQ m) (sm:MSz 12 m) {b:Bool} (hb:gzero (mconj (mundo0 m) m.t).c=b) (h0:gzero (bif b then (mconj (mundo0 m) m.t).d else (mconj (mundo0 m) m.t).c)=false)
noncomputable def sImg:Spec Tryz.prog :=
 ⟨241,Tryz.call241,[mV 0 m,rgV 8],mT m++rgT r,rgV 12,rgT (rone (imX0 r m b)),image_ok (hr.mono (by decide)) ⟨sm.a.mono (by decide),sm.b.mono (by decide),sm.c.mono (by decide),sm.d.mono (by decide)⟩ hb h0 (rby_ne (wt_pos (im_pos h hm.2.1 h0))),by kernel_rfl⟩
noncomputable def sCImg:Spec Tryz.prog :=
 (Spec.auto Tryz.call99 [.one (.a (mCl m)),.one (.a (cC r))] [] (ciA (rone (rone (imX0 r m b)))) []
  [(sOpenYes hm).e,(sWheel h).e,(sImg h hr hm sm hb h0).e,(sRTold (r:=rone (imX0 r m b)) ((im_rsz hr sm h0).mono (by decide)) rfl rfl (rby_ne (im_may h hr sm hm.2.1 h0).pow)).e] [] 800 Tryz.func99 hmA (by kernel_rfl) (fun β=>by kernel_rfl)).conv (.tup [.a (cC (rone (imX0 r m b))),nI' 0]) (by
   have hM:=im_may h hr sm hm.2.1 h0
   show ciA (rone (rone (imX0 r m b)))=_
   rw [hM.one,ciA,(ci_fit hM.fit).1,(ci_fit hM.fit).2])
end
def PtsC (f g:RQ):Prop:=ValT ptsF f g (ptNil 230)∨ValT ptsF f g (ptNil 4)∨∃ A B,((FitP A∧OnB f g A)∧(FitP B∧OnB f g B)∧ordI A B<0)∧OwnT ptsF f g (pr2 A B) ptR2
theorem cut_progC {f g l k:RQ} (ha:l.a=0) (h0:k.a≠0) (hn:cuN l≠0) (hX:0<cuX l k) (sl:RSz KL l) (sk:RSz KK k) (hon:∀ z,valQ l z=0→valQ k z=0→OnB f g (.fin z)) (W:CutV f g l k):PtsC f g:=by
 have sX:=dX_sz sl sk h0 hn
 obtain ⟨a,b,hR⟩:=rootB_of (Rat.num_nonneg.2 (by grind)) sX
 cases ht:decide (Rat.divInt a b*Rat.divInt a b=cuX l k) with
 | false=>exact .inl (W.pNo hR ht)
 | true =>
  have htt:=of_decide_eq_true ht
  have st:=rb_szt hR sX htt
  have hz:=ct_sz (sl.mono (by decide)) (sk.mono (by decide)) h0 hn st (by decide)
  have ht0:Rat.divInt a b≠0:=by
   intro e
   rw [e,Rat.mul_zero] at htt
   rw [← htt] at hX
   exact absurd hX (by decide)
  have hpq:ctP l k (Rat.divInt a b)≠ctQ l k (Rat.divInt a b):=two_ne hn ht0
  have hne:ptB (.fin (ctQ l k (Rat.divInt a b))) (.fin (ctP l k (Rat.divInt a b)))=false:=by
   cases e:ptB (.fin (ctQ l k (Rat.divInt a b))) (.fin (ctP l k (Rat.divInt a b))) with
   | false=>rfl
   | true=>exact absurd (Pt.fin.inj (ptB_iff.1 e)).symm hpq
  have oP:=cut_onP ha h0 hn htt
  have oQ:=cut_onQ ha h0 hn htt
  have o1:=hon _ oP.1 oP.2
  have o2:=hon _ oQ.1 oQ.2
  have hno:=ordI_ne hpq
  have hne2:=ordI_neg (.fin (ctP l k (Rat.divInt a b))) (.fin (ctQ l k (Rat.divInt a b)))
  by_cases f1:FitG (ctP l k (Rat.divInt a b))
  · by_cases f2:FitG (ctQ l k (Rat.divInt a b))
    · cases ho:decide (ordI (.fin (ctQ l k (Rat.divInt a b))) (.fin (ctP l k (Rat.divInt a b)))<0) with
      | true=>exact .inr (.inr ⟨.fin (ctQ l k (Rat.divInt a b)),.fin (ctP l k (Rat.divInt a b)),⟨⟨f2,o2⟩,⟨f1,o1⟩,of_decide_eq_true ho⟩,W.pSw hR ht f1 f2 hne ho⟩)
      | false=>exact .inr (.inr ⟨.fin (ctP l k (Rat.divInt a b)),.fin (ctQ l k (Rat.divInt a b)),⟨⟨f1,o1⟩,⟨f2,o2⟩,by have:=of_decide_eq_false ho; omega⟩,W.pIn hR ht f1 f2 hne ho⟩)
    · exact .inr (.inl (W.pB hR ht f1 f2 hz.2))
  · exact .inr (.inl (W.pA hR ht f1 hz.1))
section
variable {f g:RQ} (hf:MayC f) (hg:MayC g) (sf:RSz 60 f) (sg:RSz 60 g) (hs:eqRone f g=false)
include hf hg sf sg hs in
theorem pts_cross (hc:cmpQ (fsq f g) one1 = -1):PtsC f g:=by
 have pf:=may_pos hf
 have pg:=may_pos hg
 have hgp:=gram_pos pf pg hc
 obtain ⟨k,hA⟩:=axAt_all f g
 cases k with
 | both =>
  have a1:=of_decide_eq_true hA.1
  have a2:=of_decide_eq_true hA.2
  have hd:lnD f g≠0:=by
   intro e
   have h:=gram_lines a1 a2
   rw [e,Rat.mul_zero] at h
   grind
  have ho:=ln_on a1 a2 hd
  by_cases hz:FitG (lnZ f g)
  · exact .inr (.inr ⟨.fin (lnZ f g),.inf,⟨⟨hz,ho.1⟩,⟨fit_inf,ho.2⟩,by show (-1:Int)<0; decide⟩,(oPtLn hf hg (sf.mono (by decide)) (sg.mono (by decide)) hs hc hA hd hz).ok⟩)
  · exact .inr (.inl (sPtLnNo hf hg (sf.mono (by decide)) (sg.mono (by decide)) hs hc hA hd hz).ok)
 | one =>
  have a1:=of_decide_eq_true hA.1
  have a2:=of_decide_eq_false hA.2
  obtain ⟨hn,hX⟩:=cross_line a1 a2 pf hgp
  exact cut_progC (l:=f) (k:=g) a1 a2 hn hX (sf.mono (by decide)) (sg.mono (by decide)) (fun z h1 h2=>⟨h1,h2⟩) (cutv_one hf hg sf sg hs hc hA a2 hn)
 | two =>
  have a1:=of_decide_eq_false hA.1
  have a2:=of_decide_eq_true hA.2
  obtain ⟨hn,hX⟩:=cross_line (l:=g) (k:=f) a2 a1 pg (by rw [fpr_comm g f,Rat.mul_comm (fpr g g)]; exact hgp)
  exact cut_progC (l:=g) (k:=f) a2 a1 hn hX (sg.mono (by decide)) (sf.mono (by decide)) (fun z h1 h2=>⟨h2,h1⟩) (cutv_two hf hg sf sg hs hc hA a1 hn)
 | none =>
  have a1:=of_decide_eq_false hA.1
  have a2:=of_decide_eq_false hA.2
  have haa:f.a=g.a:=by rw [may_a hf a1,may_a hg a2]
  obtain ⟨hp,hn,hX⟩:=cross_two haa a1 hgp
  have hw2:decide ((fpr (axQ f g) (axQ f g)).num.sign≤0)=false:=by
   have h1:0<(fpr (axQ f g) (axQ f g)).num:=mpNum_pos.2 hp
   rw [Int.sign_eq_one_of_pos h1]
   rfl
  have hw:wtB (axQ f g)=false:=by
   have:=hw2
   rw [rpow_fpr] at this
   exact this
  exact cut_progC (l:=axQ f g) (k:=f) (ax_a haa) a1 hn hX ((ax60 sf sg).mono (by decide)) (sf.mono (by decide)) (fun z h1 h2=>⟨h2,by
   have h3:=ax_val f g z
   rw [h1,h2] at h3
   show valQ g z=0
   grind⟩) (cutv_none hf hg sf sg hs hc hA hw hw2 a1 hn)
def PtsT (f g:RQ):Prop:=ValT ptsF f g (ptNil 4)∨∃ A,(FitP A∧OnB f g A)∧OwnT ptsF f g (pr1 A) ptR1
include hf hg sf sg hs in
theorem pts_touch (hc:cmpQ (fsq f g) one1=0):PtsT f g:=by
 cases hi:decide ((tcQ f g).a=0) with
 | true=>exact .inr ⟨.inf,⟨fit_inf,tc_inf hf hg hs hc (of_decide_eq_true hi)⟩,(oPtTInf hf hg (sf.mono (by decide)) (sg.mono (by decide)) hs hc hi).ok⟩
 | false =>
  by_cases hz:FitG (cenQ (tcQ f g))
  · exact .inr ⟨.fin (cenQ (tcQ f g)),⟨hz,tc_fin hf hg hc (of_decide_eq_false hi)⟩,(oPtTFin hf hg (sf.mono (by decide)) (sg.mono (by decide)) hs hc hi hz).ok⟩
  · exact .inl (sPtTNo hf hg (sf.mono (by decide)) (sg.mono (by decide)) hs hc hi hz).ok
end
abbrev shF:FuncId:=122
abbrev shA (f g:RQ) (l:Int):List SV:=[frS f,frS g,.one (nI' l)]
def ShT (f g:RQ) (l:Int):Prop:=∀ (β:Env) (w:World),Calls Tryz.prog shF ((shA f g l).map (SV.den β)).toArray w fun e w'=>∃ xs:List Pl,freshS β w 0 xs∧e=.returned ((tB' true).den (extE β 0 xs))∧newHold w' [] xs∧Below w.heap.size w w'
noncomputable def sSh {f g:RQ} {l:Int} (h:ShT f g l):Spec Tryz.prog:=⟨shF,Tryz.call122,shA f g l,[],tB' true,[],fun β w _=>h β w,by kernel_rfl⟩
theorem sh_no (β:Env) (w:World):∀ (k:Nat) (t:Thing),([]:List Thing)[k]?=some t→t.D w (β k):=fun k t h=>by simp at h
section
variable {f g:RQ}
theorem sh_same (p:ValT ptsF f g (ptNil 7)):ShT f g 0:=fun β w =>
 spec_auto (evs:=[(pNil p).e,(sNum13 7).e,(sNum13 7).e,(sNum13 7).e]) (Ns:=[(6,44)]) (m:=800) Tryz.func122 hmA (fun β=>by kernel_rfl) (by kernel_rfl) β w (sh_no β w)
theorem sh_apart (p:ValT ptsF f g (ptNil 7)):ShT f g 3:=fun β w =>
 spec_auto (evs:=[(pNil p).e,(sNum13 7).e,(sNum13 7).e,(sNum13 7).e]) (Ns:=[(6,44)]) (m:=800) Tryz.func122 hmA (fun β=>by kernel_rfl) (by kernel_rfl) β w (sh_no β w)
theorem sh_t4 (p:ValT ptsF f g (ptNil 4)):ShT f g 1:=fun β w =>
 spec_auto (evs:=[(pNil p).e,(sNum13 4).e,(sNum13 4).e,(sNum13 4).e]) (Ns:=[(6,44)]) (m:=800) Tryz.func122 hmA (fun β=>by kernel_rfl) (by kernel_rfl) β w (sh_no β w)
theorem sh_c4 (p:ValT ptsF f g (ptNil 4)):ShT f g 2:=fun β w =>
 spec_auto (evs:=[(pNil p).e,(sNum13 4).e,(sNum13 4).e,(sNum13 4).e]) (Ns:=[(6,44)]) (m:=800) Tryz.func122 hmA (fun β=>by kernel_rfl) (by kernel_rfl) β w (sh_no β w)
theorem sh_c230 (p:ValT ptsF f g (ptNil 230)):ShT f g 2:=fun β w =>
 spec_auto (evs:=[(pNil p).e,(sNum13 230).e,(sNum13 230).e,(sNum13 230).e]) (Ns:=[(6,44)]) (m:=800) Tryz.func122 hmA (fun β=>by kernel_rfl) (by kernel_rfl) β w (sh_no β w)
variable (hf:MayC f) (hg:MayC g)
include hf hg in
theorem sh_one {A:Pt} (fA:FitP A) (oA:OnB f g A) (p:OwnT ptsF f g (pr1 A) ptR1):ShT f g 1:=fun β w =>
 spec_auto (evs:=[(pOne p).e,(sNum13 0).e,(sROn1 hf fA (sgn_0 oA.1)).eS,(sROn1 hg fA (sgn_0 oA.2)).eS,(sNum13 0).e,(sNum13 0).e]) (Ns:=[(6,44)]) (m:=800) Tryz.func122 hmA (fun β=>by kernel_rfl) (by kernel_rfl) β w (sh_no β w)
theorem shLt {c:Int} (h:c<0):Value.bool (decide (c<0))=.bool true:=by rw [decide_eq_true h]
include hf hg in
theorem sh_two {A B:Pt} (fA:FitP A) (oA:OnB f g A) (fB:FitP B) (oB:OnB f g B) (ho:ordI A B<0) (p:OwnT ptsF f g (pr2 A B) ptR2):ShT f g 2:=fun β w =>
 spec_auto (evs:=[(pTwo p).e,(sNum13 0).e,(sROn2 hf fA fB (sgn_0 oA.1) (sgn_0 oB.1)).eS,(sROn2 hg fA fB (sgn_0 oA.2) (sgn_0 oB.2)).eS,(sNum13 0).e,(sNum13 0).e,(sR7Cmp fA fB).e,.eqv 98 (.bool (decide (ordI A B<0))) (.bool true) (shLt ho)]) (Ns:=[(6,44)]) (m:=800) Tryz.func122 hmA (fun β=>by kernel_rfl) (by kernel_rfl) β w (sh_no β w)
end
end Go.Proofs.YtpccljaooghafaaGreat.Y
end
