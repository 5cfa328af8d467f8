/- SyF, SyQ, Bwd, EqM, One, L8, MkA, Mcp, LsA, LsR, LsO, MdB. -/
import Derived.RangeFuncWrites
import Derived.RangeFuncLeaves
import Derived.RangeFuncBox
import Derived.Shelf.Abstract
import Derived.WalkKit
import Derived.OwnWalkIn
import Derived.TacticsInMore
import Derived.LoopNIn
import Derived.LoopIn
import Derived.Deep.MidRow
import Derived.Test.YtbepimnlleilfaaGreatProg
import Derived.Deep.Upon
import Derived.Test.YtbepimnlleilfaaGreatNk12
set_option linter.unnecessarySimpa false
set_option linter.unusedVariables false
set_option linter.unusedSimpArgs false
section
namespace Go.Proofs.YtbepimnlleilfaaGreat.Y
open Go Go.RowKit
def postR (B:Nat) (I Ix:World→Prop) (W:World):Exit→Act→World→Prop
 | .normal,_,W'=>KeepsFrom B W W'∧I W'
 | .ret,_,W'=>KeepsFrom B W W'∧Ix W'
 | _,_,_=>False
theorem postR_out {B:Nat} {I Ix:World→Prop} {W:World}:¬ LetsOut (postR B I Ix W):=fun ⟨_,_,h⟩=>h
theorem rf_law {P:Program} {n:Nat} {g:Operand} {ps:Array Tmp} {assign body:Code} {Q:Exit→Act→World→Prop} {a:Act} {w:World}
  {gf:Nat} {lb:Array Value} (hg:a.eval g=.func (.func gf) #[] lb) (eg:∀ args w,(callFunc gf args).run P w=.ok (.enter gf args) w)
  (N:Nat) (encs:Nat→Array Value) (I:Nat→World→Prop) (hps:∀ k W,I k W→k<N→(encs k).size=ps.size) (Ix:World→Prop)
  (hI:∀ k W W' row,I k W→W.grownBy W' row→(∀ r,row=some r→w.heap.size≤r∧∃ o:Obj,W.heap[r]?=some o∧o.isCells=false)→I k W')
  (hIx:∀ W W' row,Ix W→W.grownBy W' row→(∀ r,row=some r→w.heap.size≤r∧∃ o:Obj,W.heap[r]?=some o∧o.isCells=false)→Ix W')
  (h0:I 0 w)
  (hiter:∀ (l:Nat) (J:Nat→World→Prop) (Jx:World→Prop) (W:World),(∀ k W,J k W→I k W) →
   (∀ k W1,J k W1→k<N→YieldAt Fence.wide (n-1-1) P l (encs k) W1 fun e W'=>(e=.returned (.bool true)∧J (k+1) W')∨(e=.returned (.bool false)∧Jx W'))→J 0 W →
   CallsIn Fence.wide (n-1) P gf (#[.func (.yield l) #[] #[]]++lb) W fun e W'=>(∃ v,e=.returned v)∧(J N W'∨Jx W'))
  (hround:∀ (l k:Nat) (W:World),w.heap.size≤l→(∃ o:Obj,W.heap[l]?=some o∧o.isCells=false)→I k W→k<N →
   assign.wpIn (RF (some l)) (n-1-1) P (Exit.then (fun a1 W1=>KeepsFrom w.heap.size W W1∧∀ W2,W1.grownBy W2 (some l)→body.wpIn (RF (some l)) (n-1-1) P (postR w.heap.size (I (k+1)) Ix W2) a1 W2) (fun _ _ _=>False))
    { tmps:=(ps.zip (encs k)).foldl (fun t (p,v)=>t.setIfInBounds p v) a.tmps,defers:=[] } W)
  (hdone:∀ (D:Nat) (W:World),w.heap.size≤D→I N W→W.heap[D]?=some (.deferred (some []))→Q .normal { a with defers:={ target:=.collected D,args:=#[] }::a.defers } W)
  (hstop:∀ (D:Nat) (W:World),w.heap.size≤D→Ix W→W.heap[D]?=some (.deferred (some []))→Q .ret { a with defers:={ target:=.collected D,args:=#[] }::a.defers } W) :
  (Code.rangeFunc g ps assign body).wpIn Fence.wide n P Q a w:=by
 refine wpIn_rangeFunc ?_
 intro fn hfn
 obtain ⟨rec,hrec⟩:∃ rec:LoopState→Option Code→Loop,rec=fun st pe=>{ state:=st,pending:=pe,fn,tmps:=a.tmps,params:=ps,assign,body,defers:=w.heap.size }:=⟨_,rfl⟩
 obtain ⟨W1,hW1⟩:∃ W1,(w.alloc (.deferred (some []))).alloc (.loop (rec .ready none))=W1:=⟨_,rfl⟩
 have hL1:W1.heap[w.heap.size+1]?=some (.loop (rec .ready none)):=by
  rw [← hW1]; have:=World.alloc_heap_new (w.alloc (.deferred (some []))) (.loop (rec .ready none)); rwa [World.size_alloc] at this
 have hK1:W1.heap[w.heap.size]?=some (.deferred (some [])):=by
  rw [← hW1]; exact (Below.heap_alloc _ _ _ (by simp)).trans (World.alloc_heap_new w _)
 have nor:∀ {X:World} (r:Nat),(none:Option Nat)=some r→w.heap.size≤r∧∃ o:Obj,X.heap[r]?=some o∧o.isCells=false:=fun r e=>by cases e
 have hI1:I 0 W1:=by rw [← hW1]; exact hI _ _ _ none (hI _ _ _ none h0 (World.grownBy_alloc w _ none) nor) (World.grownBy_alloc _ _ none) nor
 refine ⟨w.heap.size+1,[{ target:=.collected w.heap.size,args:=#[] }],W1,{ target:=.fn (.func gf) lb,args:=#[.func (.yield (w.heap.size+1)) #[] #[]] },W1,gf,
  #[.func (.yield (w.heap.size+1)) #[] #[]]++lb,W1,?_,?_,?_,?_,fun e=>(by simp [Fence.wide] at e),?_⟩
 · rw [← hW1,hrec]; exact run_enterLoop_outer _ _ _ _ _
 · simp only [resolve,hg]
   simp [go_sem]
 · intro f' hf'; trivial
 · simp [invoke,go_sem,eg]
 · refine (hiter (w.heap.size+1)
    (fun k W=>I k W∧W.heap[w.heap.size+1]?=some (.loop (rec .ready none))∧W.heap[w.heap.size]?=some (.deferred (some [])))
    (fun W=>Ix W∧W.heap[w.heap.size+1]?=some (.loop (rec .done (some .ret)))∧W.heap[w.heap.size]?=some (.deferred (some [])))
    W1 (fun k W h=>h.1) ?_ ⟨hI1,hL1,hK1⟩).mono ?_
   · rintro k W ⟨hi,hl,hk⟩ hlen
     have hy:=run_yield (P:=P) (args:=encs k) hl (by rw [hrec]; exact hps k W hi hlen)
     rw [hrec] at hy
     refine ⟨fn,_,assign,body,hy,roundIn_of_wpIn hfn ?_⟩
     refine wpIn_mono (hround (w.heap.size+1) k W (by omega) ⟨_,hl,rfl⟩ hi hlen) ?_
     rintro e a1 W2 h2
     cases e with
     | normal =>
      obtain ⟨hk2,h2⟩:=h2
      have hl2:=hk2.same _ _ (by omega) hl rfl
      have hd2:=hk2.same _ _ (Nat.le_refl _) hk rfl
      have hlt:w.heap.size+1<W2.heap.size:=(Array.getElem?_eq_some_iff.1 hl2).1
      refine ⟨_,run_beginRound hl2 (by rw [hrec]),?_⟩
      have hl3:(W2.putObj (w.heap.size+1) (.loop { rec .ready none with state:=.busy })).heap[w.heap.size+1]?=some (.loop { rec .ready none with state:=.busy }):=World.putObj_heap_same hlt
      have hd3:(W2.putObj (w.heap.size+1) (.loop { rec .ready none with state:=.busy })).heap[w.heap.size]?=some (.deferred (some [])):=(World.putObj_heap_other (by omega)).trans hd2
      refine wpIn_mono (h2 _ (grownBy_putObj' W2 _ _)) ?_
      have fin:∀ (jump:Option Code) (W3:World),KeepsFrom w.heap.size (W2.putObj (w.heap.size+1) (.loop { rec .ready none with state:=.busy })) W3 →
        (Instr.endRound (w.heap.size+1) jump).run P W3=.ok (.bool jump.isNone) (W3.putObj (w.heap.size+1) (.loop (rec (if jump.isNone then .ready else .done) jump))) ∧
        W3.heap[w.heap.size+1]?=some (.loop { rec .ready none with state:=.busy }) ∧
        (W3.putObj (w.heap.size+1) (.loop (rec (if jump.isNone then .ready else .done) jump))).heap[w.heap.size+1]?=some (.loop (rec (if jump.isNone then .ready else .done) jump)) ∧
        (W3.putObj (w.heap.size+1) (.loop (rec (if jump.isNone then .ready else .done) jump))).heap[w.heap.size]?=some (.deferred (some [])):=fun jump W3 hk3=>by
       have hl4:=hk3.same _ _ (by omega) hl3 rfl
       have:=run_endRound (P:=P) jump hl4
       rw [hrec] at this ⊢
       exact ⟨this,by rw [hrec] at hl4; exact hl4,World.putObj_heap_same (Array.getElem?_eq_some_iff.1 hl4).1,(World.putObj_heap_other (by omega)).trans (hk3.same _ _ (Nat.le_refl _) hd3 rfl)⟩
      have one:∀ {X:World} {o:Obj},X.heap[w.heap.size+1]?=some o→o.isCells=false→∀ r,some (w.heap.size+1)=some r→w.heap.size≤r∧∃ o:Obj,X.heap[r]?=some o∧o.isCells=false:=fun h1 h2 r e=>by cases e; exact ⟨by omega,_,h1,h2⟩
      rintro e a3 W3 hp
      cases e with
      | normal =>
       obtain ⟨hk3,hi3⟩:=hp
       obtain ⟨hr,hl4,hl5,hk5⟩:=fin none W3 hk3
       exact ⟨_,_,hr,.inl ⟨rfl,hI _ _ _ _ hi3 (grownBy_putObj' W3 _ _) (one hl4 rfl),hl5,hk5⟩⟩
      | ret =>
       obtain ⟨hk3,hi3⟩:=hp
       obtain ⟨hr,hl4,hl5,hk5⟩:=fin (some .ret) W3 hk3
       exact ⟨_,_,hr,.inr ⟨rfl,hIx _ _ _ hi3 (grownBy_putObj' W3 _ _) (one hl4 rfl),hl5,hk5⟩⟩
      | exit id=>exact hp.elim
      | goto t=>exact hp.elim
      | panic ch=>exact hp.elim
      | outgrown=>exact hp.elim
     | exit id=>exact h2.elim
     | ret=>exact h2.elim
     | goto t=>exact h2.elim
     | panic ch=>exact h2.elim
     | outgrown=>exact h2.elim
   · rintro e W2 ⟨⟨v,rfl⟩,(⟨hi,hl,hk⟩ | ⟨hi,hl,hk⟩)⟩
     · refine ⟨none,_,by have:=run_endLoop (P:=P) hl (by rw [hrec]; simp); rw [hrec] at this; exact this,hdone _ _ (Nat.le_refl _) (hI _ _ _ _ hi (grownBy_putObj' W2 _ _) fun r e=>?_) ((World.putObj_heap_other (by omega)).trans hk)⟩
       cases e; exact ⟨by omega,_,hl,rfl⟩
     · refine ⟨some .ret,_,by have:=run_endLoop (P:=P) hl (by rw [hrec]; simp); rw [hrec] at this; exact this,wpIn_ret (hstop _ _ (Nat.le_refl _) (hIx _ _ _ hi (grownBy_putObj' W2 _ _) fun r e=>?_) ((World.putObj_heap_other (by omega)).trans hk))⟩
       cases e; exact ⟨by omega,_,hl,rfl⟩
def setPs:List (Nat × SV)→List Nat→List SV→List (Nat × SV)
 | sl,p::ps,x::xs=>setPs (putS sl (some p) x) ps xs
 | sl,_,_=>sl
def roundS (P:Program) (m0 n:Nat) (Ns:List (Nat × Nat)) (m:Nat) (ps:Array Tmp) (x y:Code) (sl0:List (Nat × SV)) (v:List SV) (f:Cf P):Option (Bool × Cf P) :=
 bif Nat.beq v.length ps.size&&(v.all (SV.of fun _=>false)&&ps.toList.all (fun p=>Nat.blt p n)) then
  match runI P m0 n Ns m (some x) [] { f with sl:=setPs sl0 ps.toList v } with
  | some (.ended false f1)=>bif f1.ob.all obClB then (match runI P m0 n Ns m (some y) [] f1 with
   | some (.ended b f2)=>some (b,{ f2 with sl:=sl0 })
   | _=>none) else none
  | _=>none
 else none
def rangeE (P:Program) (fn:Func) (m0 n:Nat) (Ns:List (Nat × Nat)) (m:Nat) (res:SV) (need:List (Nat × Ob)) (ps:Array Tmp) (x y:Code) (ks:List Kf) (sl0:List (Nat × SV)):List (List SV)→Cf P→Env→Eqs
 | [],f,β=>(bif f.ob.all obClB then [] else Eqs.no)++(qZ8 f.q f.ob need++(match runI P m0 n Ns m none ks f with
  | some (.ended _ fB)=>(bif fB.ob.all obClB then [] else Eqs.no)++fin1 P fn m0 n res [] fB β
  | _=>Eqs.no))
 | v::r,f,β=>(bif f.ob.all obClB then [] else Eqs.no)++(qZ8 f.q f.ob need++(match roundS P m0 n Ns m ps x y sl0 v f with
  | some (false,f')=>rangeE P fn m0 n Ns m res need ps x y ks sl0 r f' β
  | some (true,f')=>(bif f'.ob.all obClB then [] else Eqs.no)++fin1 P fn m0 n res [] f' β
  | none=>Eqs.no))
def allX (P:Program) (fn:Func) (args:List SV) (obs:List Ob) (evs:List (Ev P)) (Ns:List (Nat × Nat)) (m:Nat) (res:SV) (need:List (Nat × Ob)) (vs:List (List SV)) (gf:Nat) (lb:Env→Array Value) (β:Env):Eqs :=
 match fn.body with
 | some c=>match runI P obs.length (qV4 fn args) Ns m (some c) [] ⟨zJ7 args 0,fun k=>Nat.blt k obs.length,obs,evs,[]⟩ with
  | some (.range g ps x y ks f)=>(bif need.all (fun p=>Nat.blt p.1 f.ob.length&&p.2.of (fun k=>Nat.blt k f.ob.length)) then [] else Eqs.no) ++
    ((.v (evS β f.sl g),.v (.func (.func gf) #[] (lb β)))::rangeE P fn obs.length (qV4 fn args) Ns m res need ps x y ks f.sl vs f β)
  | _=>Eqs.no
 | none=>Eqs.no
theorem all_cl {f:List Ob} (h:f.all obClB=true) {q:Nat→Bool}:∀ k x,q k=true→f[k]?=some x→obClB x=true:=fun k x _ hx=>List.all_eq_true.1 h x (List.mem_of_getElem? hx)
theorem keeps_from {k m0 B:Nat} {w w' w0:World} {B0:Bd} {ex:Nat→Bool} {obj:Nat→Option Ob} {β:Env} {df:List Deferred} (hg:Good B0 m0 w0 ex obj β w) (hC:∀ k x,ex k=true→obj k=some x→obClB x=true) (h:Keep (bdR k w m0 ex obj β df) w w'):KeepsFrom B w w' :=
 ⟨h.size,fun i o _ hi ho=>(h.block i (qX6 hi) fun ⟨j,x,h1,h2,h3,h4,h5⟩=>by
  have hh:=(hg.hold j x h1 h3).1
  have hc:=hC j x h1 h3
  subst h5
  cases x with
  | box cs t=>rw [hh.2] at hi; cases hi; cases ho
  | row cs t n sz=>rw [hh.2.choose_spec.1] at hi; cases hi; cases ho
  | pl n=>obtain ⟨cs,t,k1,_⟩:=hh.2; rw [k1] at hi; cases hi; cases ho
  | ow D t=>cases hc
  | th t=>cases h4
  | al r t=>cases h4
  | dead=>cases h4).trans hi⟩
theorem setPs_ok {β:Env} {n:Nat}:∀ (ps:List Nat) (v:List SV) (sl:List (Nat × SV)) (a:Act),ps.length=v.length→ps.all (fun p=>Nat.blt p n)=true→SlOk β a sl n →
  SlOk β { a with tmps:=(ps.zip (v.map (SV.den β))).foldl (fun t (p,v)=>t.setIfInBounds p v) a.tmps } (setPs sl ps v) n
 | [],[],sl,a,_,_,h=>h
 | [],_::_,_,_,h,_,_=>by simp at h
 | _::_,[],_,_,h,_,_=>by simp at h
 | p::ps,x::v,sl,a,hl,hp,h=>by
  rw [List.all_cons,Bool.and_eq_true] at hp
  have h1:=h.put (d:=some p) hp.1 x rfl
  exact setPs_ok ps v _ _ (by simpa using hl) hp.2 h1
theorem setPs_of {q:Nat→Bool}:∀ (ps:List Nat) (v:List SV) (sl:List (Nat × SV)),v.all (SV.of fun _=>false)=true→SlOf q sl→SlOf q (setPs sl ps v)
 | [],_,_,_,h=>h
 | _::_,[],_,_,h=>h
 | p::ps,x::v,sl,hv,h=>by
  rw [List.all_cons,Bool.and_eq_true] at hv
  exact setPs_of ps v _ hv.2 (h.put _ (SV.of_mono (fun k hk=>by cases hk) _ hv.1))
theorem Sync.restart {P:Program} {m0 n:Nat} {B0:Bd} {w0:World} {f:Cf P} {β:Env} {a:Act} {w:World} (s:Sync P m0 n B0 w0 f β a w) (df:List Deferred) (a':Act) (ha:a'.tmps=a.tmps) (hd:a'.defers=df):Sync P m0 n (bdR f.ob.length w m0 f.q (fun k=>f.ob[k]?) β df) w f β a' w :=
 ⟨s.good.restart _ df,s.q,⟨by rw [ha]; exact s.sl.1,fun t=>by rw [ha]; exact s.sl.2 t⟩,s.of,⟨s.m0.1,Nat.le_refl _⟩,hd,s.uq⟩
theorem roundS_ok {P:Program} {m0 n nn l:Nat} {Ns:List (Nat × Nat)} {m:Nat} {ps:Array Tmp} {x y:Code} {sl0:List (Nat × SV)} {v:List SV} {f f':Cf P} {b:Bool} (hm:P.follows .mixedOrders=true) (h:roundS P m0 n Ns m ps x y sl0 v f=some (b,f')) (hf:f.full) (hsl:f.sl=sl0) :
  (∀ z∈f.cs,z∈f'.cs)∧f'.full∧f'.sl=sl0∧v.length=ps.size∧v.all (SV.of fun _=>false)=true∧(f'.good→f.ob.all obClB=true→∀ {B0:Bd} {w0:World} {β:Env} {a:Act} {W:World},Sync P m0 n B0 w0 f β a W→B0.df=[]→B0.k≤f.ob.length→∀ (S:Nat),(S≤l∧B0.n≤l)→(∃ o:Obj,W.heap[l]?=some o∧o.isCells=false)→∀ (I Ix:World→Prop),
   (∀ β' W',(∀ i,i<f.ob.length→β' i=β i)→Sync P m0 n B0 w0 f' β' a W'→(b=false→I W')∧(b=true→Ix W')) →
   x.wpIn (RF (some l)) nn P (Exit.then (fun a1 W1=>KeepsFrom S W W1∧∀ W2,W1.grownBy W2 (some l)→y.wpIn (RF (some l)) nn P (postR S I Ix W2) a1 W2) (fun _ _ _=>False))
    { tmps:=(ps.zip (v.map (SV.den β)).toArray).foldl (fun t (p,v)=>t.setIfInBounds p v) a.tmps,defers:=[] } W):=by
 unfold roundS at h
 rw [cond_eq_ite] at h
 split at h
 · rename_i hb
   rw [Bool.and_eq_true,Bool.and_eq_true,Nat.beq_eq] at hb
   obtain ⟨hb1,hb2,hb3⟩:=hb
   split at h
   · rename_i f1 hr1
     rw [cond_eq_ite] at h
     split at h
     · rename_i hc1
       split at h
       · rename_i b2 f2 hr2
         injection h with h
         injection h with e1 e2
         subst e1 e2
         obtain ⟨i1,i2,i3⟩:=runI_ok (l:=some l) (nn:=nn) hm _ _ _ _ _ hr1 (show Cf.full { f with sl:=setPs sl0 ps.toList v } from hf)
         obtain ⟨j1,j2,j3⟩:=runI_ok (l:=some l) (nn:=nn) hm _ _ _ _ _ hr2 i2
         refine ⟨fun z hz=>j1 z (i1 z hz),j2,rfl,hb1,hb2,fun hg hcl B0 w0 β a W s hdf hk S hS hl I Ix hI=>?_⟩
         have g1:f1.good:=fun β z hz=>hg β z (j1 z hz)
         have s0:Sync P m0 n (bdR f.ob.length W m0 f.q (fun k=>f.ob[k]?) β []) W { f with sl:=setPs sl0 ps.toList v } β { tmps:=(ps.zip (v.map (SV.den β)).toArray).foldl (fun t (p,v)=>t.setIfInBounds p v) a.tmps,defers:=[] } W:=by
          refine ⟨s.good.restart _ [],s.q,?_,?_,⟨s.m0.1,Nat.le_refl _⟩,rfl,s.uq⟩
          · have:=setPs_ok (β:=β) (n:=n) ps.toList v sl0 { tmps:=a.tmps,defers:=[] } (by rw [hb1]; simp) hb3 (by rw [← hsl]; exact ⟨s.sl.1,s.sl.2⟩)
            rw [← Array.foldl_toList,Array.toList_zip]
            exact this
          · exact setPs_of _ _ _ hb2 (by rw [← hsl]; exact s.of)
         refine i3 g1 s0 _ (fun ⟨_,_,h⟩=>h.elim) fun β1 a1 W1 e1 s1=>?_
         have hkf:KeepsFrom S W W1:=keeps_from s.good (all_cl hcl) s1.good.bel
         refine ⟨hkf,fun W2 hgr=>?_⟩
         obtain ⟨o,ho1,ho2⟩:=hl
         have ho3:=hkf.same l o hS.1 ho1 ho2
         have hlt:l<W.heap.size:=qX6 ho1
         have gb:=Good.back s.good s1.good fun i hi=>e1 i (Nat.lt_of_lt_of_le hi s.m0.1)
         have g2:Good B0 m0 w0 f1.q (fun k=>f1.ob[k]?) β1 W2:=gb.grown (all_cl hc1) hgr fun r e=>by cases e; exact ⟨hS.2,o,ho3,ho2⟩
         have hlen1:f.ob.length≤f1.ob.length:=s1.m0.2
         have s2:Sync P m0 n (bdR f1.ob.length W2 m0 f1.q (fun k=>f1.ob[k]?) β1 []) W2 f1 β1 a1 W2:=⟨g2.restart _ [],s1.q,s1.sl,s1.of,⟨s1.m0.1,Nat.le_refl _⟩,s1.defers,s1.uq⟩
         refine j3 hg s2 _ postR_out fun β2 a2 W3 e2 s3=>?_
         have hkf2:KeepsFrom S W2 W3:=keeps_from g2 (all_cl hc1) s3.good.bel
         have gb2:=Good.back g2 s3.good fun i hi=>e2 i (Nat.lt_of_lt_of_le hi s1.m0.1)
         have hlen2:f1.ob.length≤f2.ob.length:=s3.m0.2
         have he:∀ i,i<f.ob.length→β2 i=β i:=fun i hi=>(e2 i (Nat.lt_of_lt_of_le hi hlen1)).trans (e1 i hi)
         have sE:Sync P m0 n B0 w0 { f2 with sl:=sl0 } β2 a W3:=by
          refine ⟨gb2,s3.q,?_,fun t=>?_,⟨s3.m0.1,by show B0.k≤f2.ob.length; omega⟩,s.defers,s3.uq⟩
          · have:=s.sl.congr (β':=β2) s.of fun k hk=>(he k ((s.q k).1 hk)).symm
            rw [hsl] at this
            exact this
          · have:=s.of t
            rw [hsl] at this
            exact SV.of_mono (fun k hk=>(s3.q k).2 (by have:=(s.q k).1 hk; show k<f2.ob.length; omega)) _ this
         obtain ⟨k1,k2⟩:=hI β2 W3 he sE
         cases b2 with
         | false=>exact ⟨hkf2,k1 rfl⟩
         | true=>exact ⟨hkf2,k2 rfl⟩
       · cases h
     · cases h
   · cases h
 · cases h
def stS (P:Program) (m0 n:Nat) (Ns:List (Nat × Nat)) (m:Nat) (ps:Array Tmp) (x y:Code) (sl0:List (Nat × SV)):List (List SV)→Cf P→Nat→Option (Cf P)
 | _,f,0=>some f
 | v::r,f,k+1=>match roundS P m0 n Ns m ps x y sl0 v f with
  | some (false,f')=>stS P m0 n Ns m ps x y sl0 r f' k
  | _=>none
 | [],_,_+1=>none
theorem fin_val {P:Program} {fn:Func} {m0 n:Nat} {res:SV} {f:Cf P} (h:∀ β,Eqs.ok (fin1 P fn m0 n res [] f β)):f.good∧∀ {B:Bd} {w0:World} {β:Env} {a:Act} {W:World},Good B m0 w0 f.q (fun k=>f.ob[k]?) β W→(∀ k,f.q k=true↔k<f.ob.length)→SlOk β a f.sl n→m0≤f.ob.length →
  (results fn a.tmps).run P W=.ok (res.den β) W:=by
 have fin:∃ r:R1 Value,run1 P m0 false (results fn (zJ6 idE f.sl n)) f.q f.ob []=some r∧res.of f.q=true∧r.ob.length=f.ob.length ∧
   ∀ β,Eqs.ok (chk P β (results fn (zJ6 β f.sl n)) r.tr.reverse (fun u=>[(.v u,.v (res.den β))])++(qZ8 f.q f.ob []++eqsOf β f.cs)):=by
  cases hx:run1 P m0 false (results fn (zJ6 idE f.sl n)) f.q f.ob [] with
  | none=>have:=h idE; unfold fin1 at this; rw [hx] at this; exact (Eqs.no_ok this).elim
  | some r =>
   obtain ⟨ra,rq,rob,rtr⟩:=r
   cases hc:(res.of f.q&&Nat.beq rob.length f.ob.length&&Nat.beq f.ev.length 0) with
   | false=>have:=h idE; unfold fin1 at this; rw [hx] at this; dsimp only at this; rw [hc] at this; exact (Eqs.no_ok this).elim
   | true =>
    have h3:=hc
    simp only [Bool.and_eq_true,Nat.beq_eq] at hc
    refine ⟨_,rfl,hc.1.1,hc.1.2,fun β=>?_⟩
    have:=h β
    unfold fin1 at this
    rw [hx] at this
    dsimp only at this
    rw [h3] at this
    exact this
 obtain ⟨r,f1,f2,f3,f4⟩:=fin
 refine ⟨fun β x hx=>eqsOf_ok (fun p hp=>f4 β p (List.mem_append.2 (.inr (List.mem_append.2 (.inr hp))))) x hx,?_⟩
 intro B w0 β a W g hq sl hm0
 obtain ⟨h5,_,_,tr,h8,h9⟩:=run1_ok _ _ _ _ _ f1 (fun k hk=>(hq k).1 hk)
 obtain ⟨k1,obj',k2,k3,k4⟩:=h9 _ _ _ _ _ _ g (fun k hk=>⟨hk,rfl⟩) (fun k a b=>by omega) hm0
 have h6:=f4 β
 rw [h8,List.append_nil,List.reverse_reverse] at h6
 have h7:Eqs.ok (chk P β (results fn (zJ6 β f.sl n)) tr (fun u=>[(.v u,.v (res.den β))])):=fun p hp=>h6 p (List.mem_append.2 (.inl hp))
 obtain ⟨v,hv,hv2⟩:=chk_run _ _ _ h7 k1
 obtain ⟨e1,_⟩:=Eqs.cons_ok hv2
 injection e1 with e1
 subst e1
 have hend:zZ3 β W tr=W:=by
  obtain ⟨tr2,x1,x2⟩:=run1_still _ _ _ _ _ f1 (fun k hk=>(hq k).1 hk) f3
  rw [h8,List.append_nil,List.append_nil] at x1
  rw [List.reverse_inj.1 x1]
  exact x2 β W
 rw [hend] at hv
 rw [tmps_eq sl]
 exact hv
section
variable {P:Program} {fn:Func} {m0 n:Nat} {Ns:List (Nat × Nat)} {m:Nat} {res:SV} {need:List (Nat × Ob)} {ps:Array Tmp} {x y:Code} {ks:List Kf} {sl0:List (Nat × SV)} (hm:P.follows .mixedOrders=true)
include hm
theorem range_st:∀ (vs:List (List SV)) (f:Cf P),(∀ β,Eqs.ok (rangeE P fn m0 n Ns m res need ps x y ks sl0 vs f β))→f.full→f.sl=sl0 →
  f.good∧∀ k fk,stS P m0 n Ns m ps x y sl0 vs f k=some fk→(fk.full∧fk.sl=sl0∧fk.ob.all obClB=true∧∀ β:Env,Eqs.ok (qZ8 fk.q fk.ob need)) ∧
   (k<vs.length→∃ b f',roundS P m0 n Ns m ps x y sl0 (vs.getD k []) fk=some (b,f')∧f'.good∧(b=false→stS P m0 n Ns m ps x y sl0 vs f (k+1)=some f')∧(b=true→f'.ob.all obClB=true∧∀ β,Eqs.ok (fin1 P fn m0 n res [] f' β))) ∧
   (k=vs.length→∃ b fB,runI P m0 n Ns m none ks fk=some (.ended b fB)∧fB.ob.all obClB=true∧∀ β,Eqs.ok (fin1 P fn m0 n res [] fB β))
 | [],f,h,hf,hsl=>by
  have h0:∀ β,_:=fun β=>h β
  have hcl:=bif_ok (Eqs.left (h0 idE))
  have hnd:∀ β:Env,Eqs.ok (qZ8 f.q f.ob need):=fun β=>Eqs.left (Eqs.right (h0 β))
  cases hr:runI P m0 n Ns m none ks f with
  | none=>have:=Eqs.right (Eqs.right (h0 idE)); rw [hr] at this; exact (Eqs.no_ok this).elim
  | some s =>
   have h1:∀ β,_:=fun β=>Eqs.right (Eqs.right (h0 β))
   rw [hr] at h1
   cases s with
   | range g ps2 x2 y2 ks2 f2=>exact (Eqs.no_ok (h1 idE)).elim
   | ended b fB =>
    have hclB:=bif_ok (Eqs.left (h1 idE))
    have hfin:∀ β,Eqs.ok (fin1 P fn m0 n res [] fB β):=fun β=>Eqs.right (h1 β)
    have hgB:=(fin_val hfin).1
    obtain ⟨i1,i2,i3⟩:=runI_ok (l:=none) (nn:=0) hm _ _ _ _ _ hr hf
    refine ⟨fun β z hz=>hgB β z (i1 z hz),fun k fk hk=>?_⟩
    cases k with
    | succ k=>cases hk
    | zero =>
     obtain rfl:=Option.some.inj hk
     exact ⟨⟨hf,hsl,hcl,hnd⟩,fun h=>by simp at h,fun _=>⟨b,fB,hr,hclB,hfin⟩⟩
 | v::r,f,h,hf,hsl=>by
  have h0:∀ β,_:=fun β=>h β
  have hcl:=bif_ok (Eqs.left (h0 idE))
  have hnd:∀ β:Env,Eqs.ok (qZ8 f.q f.ob need):=fun β=>Eqs.left (Eqs.right (h0 β))
  have h1:∀ β,_:=fun β=>Eqs.right (Eqs.right (h0 β))
  cases hr:roundS P m0 n Ns m ps x y sl0 v f with
  | none=>rw [hr] at h1; exact (Eqs.no_ok (h1 idE)).elim
  | some s =>
   obtain ⟨b,f'⟩:=s
   rw [hr] at h1
   obtain ⟨i1,i2,i3,_⟩:=roundS_ok (nn:=0) (l:=0) hm hr hf hsl
   cases b with
   | true =>
    have hcl':=bif_ok (Eqs.left (h1 idE))
    have hfin:∀ β,Eqs.ok (fin1 P fn m0 n res [] f' β):=fun β=>Eqs.right (h1 β)
    have hg':=(fin_val hfin).1
    refine ⟨fun β z hz=>hg' β z (i1 z hz),fun k fk hk=>?_⟩
    cases k with
    | succ k=>unfold stS at hk; rw [hr] at hk; cases hk
    | zero =>
     obtain rfl:f=fk:=by unfold stS at hk; exact Option.some.inj hk
     exact ⟨⟨hf,hsl,hcl,hnd⟩,fun _=>⟨true,f',hr,hg',(fun h=>by cases h),fun _=>⟨hcl',hfin⟩⟩,fun h=>by simp at h⟩
   | false =>
    obtain ⟨hg',hs⟩:=range_st r f' h1 i2 i3
    refine ⟨fun β z hz=>hg' β z (i1 z hz),fun k fk hk=>?_⟩
    cases k with
    | zero =>
     obtain rfl:f=fk:=by unfold stS at hk; exact Option.some.inj hk
     refine ⟨⟨hf,hsl,hcl,hnd⟩,fun _=>⟨false,f',hr,hg',fun _=>?_,fun h=>by cases h⟩,fun h=>by simp at h⟩
     show (match roundS P m0 n Ns m ps x y sl0 v f with | some (false,f')=>stS P m0 n Ns m ps x y sl0 r f' 0 | _=>none)=_
     rw [hr]
     cases r<;>rfl
    | succ k =>
     have hk2:stS P m0 n Ns m ps x y sl0 r f' k=some fk:=by
      have:(match roundS P m0 n Ns m ps x y sl0 v f with | some (false,f')=>stS P m0 n Ns m ps x y sl0 r f' k | _=>none)=some fk:=hk
      rw [hr] at this
      exact this
     obtain ⟨a1,a2,a3⟩:=hs k fk hk2
     refine ⟨a1,fun hlt=>?_,fun he=>a3 (by simpa using he)⟩
     obtain ⟨b,g,c1,c2,c3,c4⟩:=a2 (by simpa using hlt)
     refine ⟨b,g,by simpa using c1,c2,fun hb=>?_,c4⟩
     show (match roundS P m0 n Ns m ps x y sl0 v f with | some (false,f')=>stS P m0 n Ns m ps x y sl0 r f' (k+1) | _=>none)=_
     rw [hr]
     exact c3 hb
end
theorem leave_ok {P:Program} {fn:Func} {m0 n nn:Nat} {res:SV} {f f0:Cf P} {w w1 W:World} {β0 β:Env} {a:Act} {D:Nat} (g1:Good (bd0 w.heap.size m0) m0 w f0.q (fun k=>f0.ob[k]?) β0 w1) (hcl:f.ob.all obClB=true) (hfin:∀ β,Eqs.ok (fin1 P fn m0 n res [] f β))
  (g:Good (bdR f0.ob.length w1 m0 f0.q (fun k=>f0.ob[k]?) β0 []) m0 w1 f.q (fun k=>f.ob[k]?) β W) (hq:∀ k,f.q k=true↔k<f.ob.length) (sl:SlOk β a f.sl n) (hm0:m0≤f.ob.length) (hβ:∀ i,i<m0→β i=β0 i)
  (hd:a.defers=[{ target:=.collected D,args:=#[] }]) (hD:w1.heap.size≤D) (hK:W.heap[D]?=some (.deferred (some []))) {R:Ending→World→Prop} (hR:∀ w',Below w.heap.size w w'→R (.returned (res.den β)) w') :
  LeavesInM Fence.wide nn P fn a.tmps R a.defers .returning W:=by
 rw [hd]
 refine ⟨by simp,.inl ⟨_,_,rfl,run_takeDeferred hK,?_⟩⟩
 have g3:=g.grown (all_cl hcl) (grownBy_putObj' W D (.deferred none)) fun r e=>by cases e; exact ⟨hD,_,hK,rfl⟩
 have hv:=(fin_val hfin).2 g3 hq sl hm0
 exact ⟨_,hv,hR _ (Good.back g1 g3 hβ).bel.below⟩
theorem sx_range {P:Program} {f:FuncId} {fn:Func} (args:List SV) (obs:List Ob) (evs:List (Ev P)) (Ns:List (Nat × Nat)) (m:Nat) (res:SV) (need:List (Nat × Ob)) (vs:List (List SV)) (gf:Nat) (lb:Env→Array Value) (hf:P.funcs[f]?=some fn) (hm:P.follows .mixedOrders=true)
  (eg:∀ args w,(callFunc gf args).run P w=.ok (.enter gf args) w)
  (hiter:∀ (β:Env) (nn l:Nat) (J:Nat→World→Prop) (Jx:World→Prop) (W:World),(∀ k W,J k W→qX2 β W need) →
   (∀ k W1,J k W1→k<vs.length→YieldAt Fence.wide (nn-1) P l ((vs.getD k []).map (SV.den β)).toArray W1 fun e W'=>(e=.returned (.bool true)∧J (k+1) W')∨(e=.returned (.bool false)∧Jx W'))→J 0 W →
   CallsIn Fence.wide nn P gf (#[.func (.yield l) #[] #[]]++lb β) W fun e W'=>(∃ v,e=.returned v)∧(J vs.length W'∨Jx W'))
  (hok:∀ β,Eqs.ok (allX P fn args obs evs Ns m res need vs gf lb β))
  (hargs:args.all (SV.of fun k=>Nat.blt k obs.length)=true) (hobs:obs.all (fun x=>x.of (fun k=>Nat.blt k obs.length)&&x.own)=true) (hres:∀ β β',res.den β=res.den β') (β:Env) (w:World) (hh:∀ (k:Nat) (o:Ob),obs[k]?=some o→o.holds β w (β k)) :
  Calls P f (args.map (SV.den β)).toArray w fun e w'=>e=.returned (res.den β)∧Below w.heap.size w w':=by
 have hnal:∀ (k r:Nat) (D:Thing),obs[k]?≠some (.al r D):=fun k r D ho=>by
  have:=List.all_eq_true.1 hobs _ (List.mem_of_getElem? ho)
  simp [Ob.own] at this
 have huq:UniqAl obs:=fun k j i D _ h1 _=>absurd h1 (hnal k i D)
 have hlt:∀ k,k<obs.length→∀ c,(β k).F c→c<w.heap.size:=fun k hk c hc=>by
  have h:=hh k _ (List.getElem?_eq_getElem hk)
  cases hx:obs[k] with
  | box cs t=>rw [hx] at h; rw [(h.1.1 c).1 hc]; exact qX6 h.2
  | th D=>rw [hx] at h; exact D.st.lt _ _ h c hc
  | al r D=>rw [hx] at h; exact D.st.lt _ _ h c hc
  | pl n=>rw [hx] at h; rw [(h.1.1 c).1 hc]; exact h.2.lt
  | row cs t n sz=>rw [hx] at h; rw [(h.1.1 c).1 hc]; exact qX6 h.2.choose_spec.1
  | ow D t=>rw [hx] at h; exact D.st.lt _ _ h.2 c hc
  | dead =>
   have:=List.all_eq_true.1 hobs _ (List.mem_of_getElem? (List.getElem?_eq_getElem hk))
   rw [hx] at this
   simp [Ob.own] at this
 cases hb:fn.body with
 | none=>have:=hok β; unfold allX at this; rw [hb] at this; exact (Eqs.no_ok this).elim
 | some c =>
  obtain ⟨n,hn⟩:∃ n,n=qV4 fn args:=⟨_,rfl⟩
  unfold allX at hok
  rw [hb] at hok
  dsimp only at hok
  rw [← hn] at hok
  cases hr:runI P obs.length n Ns m (some c) [] ⟨zJ7 args 0,fun k=>Nat.blt k obs.length,obs,evs,[]⟩ with
  | none=>have:=hok β; rw [hr] at this; exact (Eqs.no_ok this).elim
  | some s =>
   rw [hr] at hok
   cases s with
   | ended b f2=>exact (Eqs.no_ok (hok β)).elim
   | range g ps x y ks fA =>
    dsimp only at hok
    have hneed:=bif_ok (Eqs.left (hok idE))
    have hgv:∀ β,evS β fA.sl g=.func (.func gf) #[] (lb β):=fun β=>by
     obtain ⟨e,_⟩:=Eqs.cons_ok (Eqs.right (hok β))
     injection e
    have hE:∀ β,Eqs.ok (rangeE P fn obs.length n Ns m res need ps x y ks fA.sl vs fA β):=fun β=>(Eqs.cons_ok (Eqs.right (hok β))).2
    obtain ⟨i1,i2,i3⟩:=runI_ok (l:=none) (nn:=10) hm _ _ _ _ _ hr ⟨fun k=>by dsimp only; rw [Nat.blt_eq],huq⟩
    obtain ⟨hgA,hS⟩:=range_st hm vs fA hE i2 rfl
    have hLQ:¬ LetsOut (bodyPostM Fence.wide 10 P fn fun e w'=>e=.returned (res.den β)∧Below w.heap.size w w'):=fun ⟨_,w',h⟩=>by
     have h:Ending.outgrown=.returned (res.den β)∧_:=h
     cases h.1
    refine (callsIn_wide (n:=10)).1 (callsIn_of_wp_marks hf hb trivial ?_)
    refine i3 hgA (B0:=bd0 w.heap.size obs.length) (w0:=w) (β:=β) ⟨⟨Keep.refl _ _,Nat.le_refl _,fun k o hk ho=>⟨hh k o ho,(Bool.and_eq_true _ _▸List.all_eq_true.1 hobs o (List.mem_of_getElem? ho)).1⟩,fun k hk=>hlt k (by simpa [Nat.blt_eq] using hk),fun k j hk _ _ hm=>?_,fun k _ hk hm=>?_,fun k hk hm=>?_,fun i hi=>by rw [Nat.blt_eq]; exact hi,fun k r D _ ho=>?_,fun k r D _ ho=>absurd ho (hnal k r D),fun k i _ hi _ hm=>by rw [Nat.blt_eq] at hi; omega⟩,fun k=>by dsimp only; rw [Nat.blt_eq],⟨?_,fun t=>?_⟩,fun t=>?_,⟨Nat.le_refl _,Nat.le_refl _⟩,rfl,huq⟩ _ hLQ fun β1 a1 w1 e1 s1=>?_
    · rw [Nat.blt_eq] at hk; omega
    · rw [Nat.blt_eq] at hk; omega
    · rw [Nat.blt_eq] at hk; omega
    · exact absurd ho (hnal k r D)
    · rw [hn]; simp [qV4]
    · rw [qV5,if_pos (Nat.zero_le _),Nat.sub_zero]
      simp only [Array.getD_eq_getD_getElem?,Array.getElem?_append,List.size_toArray,List.length_map,List.getElem?_toArray,List.getElem?_map]
      split
      · rename_i hlt2
        rw [List.getElem?_eq_getElem hlt2]
        rfl
      · rename_i hge
        rw [List.getElem?_eq_none (by omega)]
        simp [Array.getElem?_replicate]
        split<;>rfl
    · dsimp only
      rw [qV5,if_pos (Nat.zero_le _),Nat.sub_zero]
      cases hx:args[t]? with
      | none=>rfl
      | some x=>exact List.all_eq_true.1 hargs x (List.mem_of_getElem? hx)
    ·
     have hdf:a1.defers=[]:=s1.defers
     obtain ⟨df0,hdf0⟩:∃ df0:Act,df0=a1:=⟨_,rfl⟩
     have s2:=s1.restart [] a1 rfl hdf
     have hm0L:obs.length≤fA.ob.length:=s1.m0.1
     show (Code.rangeFunc g ps x y).wpIn Fence.wide 10 P (postI none 10 P _ ks) a1 w1
     refine rf_law (n:=10) (gf:=gf) (lb:=lb β1) (by rw [s1.sl.eval]; exact hgv β1) eg vs.length (fun k=>((vs.getD k []).map (SV.den β1)).toArray)
      (fun k W=>∃ fk,stS P obs.length n Ns m ps x y fA.sl vs fA k=some fk∧∃ βk,(∀ i,i<fA.ob.length→βk i=β1 i)∧Sync P obs.length n (bdR fA.ob.length w1 obs.length fA.q (fun k=>fA.ob[k]?) β1 []) w1 fk βk a1 W)
      ?_ (fun W=>∃ f',(f'.ob.all obClB=true∧∀ β,Eqs.ok (fin1 P fn obs.length n res [] f' β))∧∃ βk,(∀ i,i<fA.ob.length→βk i=β1 i)∧Sync P obs.length n (bdR fA.ob.length w1 obs.length fA.q (fun k=>fA.ob[k]?) β1 []) w1 f' βk a1 W)
      ?_ ?_ ⟨fA,by cases vs<;>rfl,β1,fun _ _=>rfl,s2⟩ ?_ ?_ ?_ ?_
     · rintro k W ⟨fk,h1,βk,h2,s⟩ hk
       obtain ⟨⟨c1,c2,c3,c4⟩,c5,_⟩:=hS k fk h1
       obtain ⟨b,f',d1,_⟩:=c5 hk
       obtain ⟨_,_,_,d2,_⟩:=roundS_ok (nn:=0) (l:=0) hm d1 c1 c2
       simpa using d2
     · rintro k W W' row ⟨fk,h1,βk,h2,s⟩ hgr hrow
       obtain ⟨⟨c1,c2,c3,c4⟩,_⟩:=hS k fk h1
       exact ⟨fk,h1,βk,h2,⟨s.good.grown (all_cl c3) hgr hrow,s.q,s.sl,s.of,s.m0,s.defers,s.uq⟩⟩
     · rintro W W' row ⟨f',h1,βk,h2,s⟩ hgr hrow
       exact ⟨f',h1,βk,h2,⟨s.good.grown (all_cl h1.1) hgr hrow,s.q,s.sl,s.of,s.m0,s.defers,s.uq⟩⟩
     · intro l J Jx W hJ hY h0
       refine hiter β1 9 l J Jx W (fun k W hj p hp=>?_) hY h0
       obtain ⟨fk,h1,βk,h2,s⟩:=hJ k W hj
       obtain ⟨⟨c1,c2,c3,c4⟩,_⟩:=hS k fk h1
       have h3:=qX1 s.good (fun k hk=>⟨hk,rfl⟩) need (c4 βk) p hp
       have h4:=List.all_eq_true.1 hneed p hp
       rw [Bool.and_eq_true,Nat.blt_eq] at h4
       rw [← h2 p.1 h4.1]
       exact Ob.holds_congr (q:=fun k=>Nat.blt k fA.ob.length) (fun i hi=>h2 i (by rw [Nat.blt_eq] at hi; exact hi)) p.2 h4.2 h3
     · rintro l k W hl hlo ⟨fk,h1,βk,h2,s⟩ hk
       obtain ⟨⟨c1,c2,c3,c4⟩,c5,_⟩:=hS k fk h1
       obtain ⟨b,f',d1,d2,d3,d4⟩:=c5 hk
       obtain ⟨_,_,_,_,d6,d5⟩:=roundS_ok (nn:=8) (l:=l) hm d1 c1 c2
       have hLk:fA.ob.length≤fk.ob.length:=s.m0.2
       have hvv:((vs.getD k []).map (SV.den β1))=((vs.getD k []).map (SV.den βk)):=List.map_congr_left fun z hz=>SV.den_congr (q:=fun _=>false) (fun k hk=>by cases hk) z (List.all_eq_true.1 d6 z hz)
       rw [hvv]
       exact d5 d2 c3 s rfl hLk w1.heap.size ⟨hl,hl⟩ hlo _ _ fun β' W' e s'=>⟨fun hb=>⟨f',d3 hb,β',fun i hi=>(e i (Nat.lt_of_lt_of_le hi hLk)).trans (h2 i hi),s'⟩,fun hb=>⟨f',d4 hb,β',fun i hi=>(e i (Nat.lt_of_lt_of_le hi hLk)).trans (h2 i hi),s'⟩⟩
     · rintro D W hD ⟨fN,h1,βN,h2,s⟩ hK
       obtain ⟨⟨c1,c2,c3,c4⟩,_,c6⟩:=hS _ fN h1
       obtain ⟨b,fB,d1,d2,d3⟩:=c6 rfl
       obtain ⟨j1,j2,j3⟩:=runI_ok (l:=none) (nn:=10) hm _ _ _ _ _ d1 c1
       have s3:=s.restart ({ target:=.collected D,args:=#[] }::a1.defers) { a1 with defers:={ target:=.collected D,args:=#[] }::a1.defers } rfl rfl
       refine j3 (fin_val d3).1 s3 _ hLQ fun β2 a2 W2 e2 s4=>?_
       have gB:=Good.back s.good s4.good fun i hi=>e2 i (Nat.lt_of_lt_of_le hi (Nat.le_trans hm0L s.m0.2))
       have hK2:=(keeps_from (B:=0) s.good (all_cl c3) s4.good.bel).same D _ (Nat.zero_le _) hK rfl
       have hdd:a2.defers=[{ target:=.collected D,args:=#[] }]:=by
        have:a2.defers={ target:=.collected D,args:=#[] }::a1.defers:=s4.defers
        rw [this,hdf]
       have hLL:=leave_ok (nn:=10) (R:=fun e w'=>e=.returned (res.den β)∧Below w.heap.size w w') s1.good d2 d3 gB s4.q s4.sl s4.m0.1 (fun i hi=>(e2 i (Nat.lt_of_lt_of_le hi (Nat.le_trans hm0L s.m0.2))).trans (h2 i (Nat.lt_of_lt_of_le hi hm0L))) hdd hD hK2 fun w' hb=>⟨by rw [hres β2 β],hb⟩
       cases b<;>exact hLL
     · rintro D W hD ⟨f',h1,βk,h2,s⟩ hK
       refine zV4 ?_ ks
       have hdd:({ a1 with defers:={ target:=.collected D,args:=#[] }::a1.defers }:Act).defers=[{ target:=.collected D,args:=#[] }]:=by
        show ({ target:=.collected D,args:=#[] }:Deferred)::a1.defers=_
        rw [hdf]
       exact leave_ok (nn:=10) (R:=fun e w'=>e=.returned (res.den β)∧Below w.heap.size w w') s1.good h1.1 h1.2 s.good s.q (a:={ a1 with defers:={ target:=.collected D,args:=#[] }::a1.defers }) ⟨s.sl.1,s.sl.2⟩ s.m0.1 (fun i hi=>h2 i (Nat.lt_of_lt_of_le hi hm0L)) hdd hD hK fun w' hb=>⟨by rw [hres βk β],hb⟩
end Go.Proofs.YtbepimnlleilfaaGreat.Y
end
section
namespace Go.Proofs.YtbepimnlleilfaaGreat
open Go Go.RowKit Go.Shelf
attribute [local go_sem] Oper.semAt_some
def BwH (Bs b len cap:Nat) (V:Nat→List Value) (W:World):Prop :=
 W.cell? ⟨Bs,0,none⟩=some (.slice (some ⟨b,0,none⟩) len cap)∧∀ i,i<len→W.rangeAt b (i*33) (V i)
theorem bw_load {n:Nat} {P:Program} {T:TypeId} {ops:Array Oper} {rest:List Oper} {o:Oper} {a:Act} {w:World} {Q:Exit→Act→World→Prop} (hgd:o.guard=none) (x:Operand) (ho:o.op=.load T x) (p v:Value)
  (hx:a.eval x=p) (hl:(Instr.loadAt T p).run P w=.ok v w) (h:wpListIn Fence.wide n P ops Q rest (a.put o.dst v) w):wpListIn Fence.wide n P ops Q (o::rest) a w:=by
 refine wpListIn_plain hgd fun K hK=>⟨fun _ _=>trivial,?_⟩
 rw [show Fence.wide.round=none from rfl,Oper.semAt_none]
 unfold execOp
 simp only [ho,hx,Sem.run_bind,hl,Result.andThen_ok]
 exact hK _ _ h
set_option maxRecDepth 100000 in
set_option maxHeartbeats 4000000 in
theorem bwd1_in (n l Bs b len cap:Nat) (V:Nat→List Value) (hV:∀ i,(V i).length=33) (hreach:len≤4096) (J:Nat→World→Prop) (Jx:World→Prop)
  (hJ:∀ k W,J k W→BwH Bs b len cap V W)
  (hY:∀ k W,J k W→k<len→YieldAt Fence.wide (n-1) Tryz.prog l #[.int .i64 ((len:Int)-1-k),.agg (V (len-1-k)).toArray] W fun e W'=>(e=.returned (.bool true)∧J (k+1) W')∨(e=.returned (.bool false)∧Jx W'))
  (W:World) (h0:J 0 W) :
  CallsIn Fence.wide n Tryz.prog 294 #[.func (.yield l) #[] #[],.pointer (some ⟨Bs,0,none⟩)] W fun e W'=>(∃ v,e=.returned v)∧(J len W'∨Jx W'):=by
 have hB0:=(hJ 0 W h0).1
 have hn:Fence.wide.depth.isSome=true→1≤n:=fun e=>by simp [Fence.wide] at e
 refine callsIn_of_wp Tryz.func294 rfl trivial ?_ rfl
 simp only [Tryz.ntmps294,List.size_toArray,List.length_cons,List.length_nil,Nat.reduceAdd,Nat.reduceSub,Array.replicate_succ,Array.replicate_zero,List.push_toArray,List.append_toArray,List.nil_append,List.cons_append]
 gi_wp2
 gi_loopw [3] (fun i wr=>∃ k:Nat,k≤len∧i=.int .i64 ((len:Int)-1-k)∧J k wr)
  (fun i _=>(intOf i+1).toNat)
 case atStart=>exact ⟨0,Nat.zero_le _,by simp,h0⟩
 case round =>
  obtain ⟨k,hk,rfl,hJs⟩:=hrel
  obtain ⟨hB1,hR1⟩:=hJ k wr hJs
  by_cases hlt:k<len
  · obtain ⟨i,hi⟩:∃ i,i=len-1-k:=⟨_,rfl⟩
    have hi2:i<len:=by omega
    have hie:(len:Int)-1-(k:Int)=(i:Int):=by omega
    obtain ⟨fn,tmps,assign,body,hy,hR⟩:=hY k wr hJs hlt
    rw [hie] at hy ⊢
    rw [← hi] at hy
    clear hi
    have hl:=run_loadAt_mid (P:=Tryz.prog) wr b (i*33) 48 (V i) _ (hR1 i hi2) Tryz.underlying48 (by kernel_rfl) (by rw [hV]; kernel_rfl)
    gi_wp2_with (refine bw_load (T:=48) rfl _ rfl _ _ rfl hl ?_)
    refine ⟨hn,hR.mono ?_⟩
    rintro e W3 (⟨rfl,hJ3⟩ | ⟨rfl,hJx3⟩)
    · gi_wp2
      go_roundw
      case rel=>exact ⟨k+1,by omega,by congr 1; simp<;>omega,hJ3⟩
      case measure=>simp [intOf]<;>omega
    · gi_wp2
      refine bodyPost_ret (results_none rfl _ _ _) rfl ?_
      exact ⟨⟨_,rfl⟩,.inr hJx3⟩
  · obtain rfl:k=len:=by omega
    gi_wp2
    go_end0
    exact ⟨⟨_,rfl⟩,.inl hJs⟩
end Go.Proofs.YtbepimnlleilfaaGreat
end
section
namespace Go.Proofs.YtbepimnlleilfaaGreat
open Go.Proofs.YtbepimnlleilfaaGreat.Y
open Go Go.RowKit
set_option maxRecDepth 100000
abbrev svI (n:Int):SC:=.c (.b (.v (.int .i64 n)))
theorem sz_lit1 {n:Int} (h:n.natAbs<256):Fit (Rat.divInt n 1):=(Sz.small h).fit (by decide)
theorem qV7 {n m:Int} (h:n.natAbs<256) (k:m.natAbs<256):FitG (gint n m):=⟨sz_lit1 h,sz_lit1 k⟩
def mV (a a' b b' c c' d d':R4) (t:Bool):Array Value:=#[.bool a.b,.string a.s,.bool a.c,.string a.t,.bool a'.b,.string a'.s,.bool a'.c,.string a'.t,.bool b.b,.string b.s,.bool b.c,.string b.t,.bool b'.b,.string b'.s,.bool b'.c,.string b'.t,
 .bool c.b,.string c.s,.bool c.c,.string c.t,.bool c'.b,.string c'.s,.bool c'.c,.string c'.t,.bool d.b,.string d.s,.bool d.c,.string d.t,.bool d'.b,.string d'.s,.bool d'.c,.string d'.t,.bool t]
def gV (a a':R4):Array Value:=#[.bool a.b,.string a.s,.bool a.c,.string a.t,.bool a'.b,.string a'.s,.bool a'.c,.string a'.t]
def geq (x y x' y':R4):Bool:=x.eq x'&&(y.eq y'&&true)
theorem eqM {w:World} (n:Nat) (a a' b b' c c' d d':R4) (t:Bool) (p p' q q' r r' s s':R4) (u:Bool):(Op.equalIn (n+5) 48 (.agg (mV a a' b b' c c' d d' t)) (.agg (mV p p' q q' r r' s s' u))).run Tryz.prog w=.ok (geq a a' p p'&&(geq b b' q q'&&(geq c c' r r'&&(geq d d' s s'&&((t==u)&&true))))) w:=by
 unfold mV
 rw [run_equalIn_agg _ _ _ _ _ (by kernel_rfl) (by kernel_rfl)]
 refine qX0 (a:=.agg (gV a a')) (b:=.agg (gV p p')) (by kernel_rfl) (by kernel_rfl) (by kernel_rfl) (eqG n _ _ _ _) ?_
 refine qX0 (a:=.agg (gV b b')) (b:=.agg (gV q q')) (by kernel_rfl) (by kernel_rfl) (by kernel_rfl) (eqG n _ _ _ _) ?_
 refine qX0 (a:=.agg (gV c c')) (b:=.agg (gV r r')) (by kernel_rfl) (by kernel_rfl) (by kernel_rfl) (eqG n _ _ _ _) ?_
 refine qX0 (a:=.agg (gV d d')) (b:=.agg (gV s s')) (by kernel_rfl) (by kernel_rfl) (by kernel_rfl) (eqG n _ _ _ _) ?_
 refine qX0 (a:=.bool t) (b:=.bool u) (by kernel_rfl) (by kernel_rfl) (by kernel_rfl) (run_equalIn_bool' _ _ _ _ _ (by kernel_rfl)) ?_
 kernel_rfl
theorem geq_self (x y:R4):geq x y x y=true:=by
 unfold geq
 rw [R4.eq_iff.2 rfl,R4.eq_iff.2 rfl]; rfl
abbrev svB (b:Bool):SV:=.one (.c (.b (.v (.bool b))))
abbrev pI (n m:Int):Pt:=.fin (gint n m)
theorem pI_fit {n m:Int} (h:n.natAbs<256) (k:m.natAbs<256):FitP (pI n m):=qV7 h k
theorem pI_ne {n m n' m':Int} (h:¬ (n=n'∧m=m')):pI n m≠pI n' m':=fun e=>h (by
 injection e with e
 injection e with e1 e2
 have k1:=congrArg Rat.num e1
 have k2:=congrArg Rat.num e2
 rw [(zJ3 n).1,(zJ3 n').1] at k1
 rw [(zJ3 m).1,(zJ3 m').1] at k2
 exact ⟨k1,k2⟩)
theorem fit_small {z:GQ} (h1:z.re.num.natAbs<256) (h2:z.re.den<256) (h3:z.im.num.natAbs<256) (h4:z.im.den<256):FitP (.fin z) :=
 ⟨Sz.fit (k:=1) ⟨zX5 h1,zX5 (n:=(z.re.den:Int)) (by simpa using h2)⟩ (by decide),Sz.fit (k:=1) ⟨zX5 h3,zX5 (n:=(z.im.den:Int)) (by simpa using h4)⟩ (by decide)⟩
theorem zX9 {z w:GQ} (h1:decide (z.re=w.re)=true) (h2:decide (z.im=w.im)=true):z=w:=GQ.ext2 (of_decide_eq_true h1) (of_decide_eq_true h2)
theorem mq_ext {m n:MQ} (h1:m.a=n.a) (h2:m.b=n.b) (h3:m.c=n.c) (h4:m.d=n.d) (h5:m.t=n.t):m=n:=by cases m; cases n; cases h1; cases h2; cases h3; cases h4; cases h5; rfl
end Go.Proofs.YtbepimnlleilfaaGreat
end
section
namespace Go.Proofs.YtbepimnlleilfaaGreat.Y
open Go Go.RowKit
set_option maxRecDepth 100000
theorem g00:gint 0 0=g0:=zX9 (by kernel_rfl) (by kernel_rfl)
theorem g0_fit:FitG g0:=by rw [← g00]; exact qV7 (by decide) (by decide)
theorem mid_fit (t:Bool):FitM (mid t):=⟨qV7 (by decide) (by decide),g0_fit,g0_fit,qV7 (by decide) (by decide)⟩
theorem mid_nrm (t:Bool):Nrm (mid t):=by
 unfold Nrm mid
 rw [gz_true.2 rfl]
 exact gint10
noncomputable def sToldId:Spec Tryz.prog :=
 ⟨148,Tryz.call148,[mV 0 (mid false)],mM (mid false),.tup [.a (lsX (mC (mid false))),.c (.b (.v (.int .i64 0)))],[],fun β w hh=>by
  have k:=(sToldN (m:=mid false) ((qX3 (mid_fit false)).mono (by decide)) (mid_nrm false)).ok β w hh
  rw [show (sToldN (m:=mid false) ((qX3 (mid_fit false)).mono (by decide)) (mid_nrm false)).res=.tup [.a (lsX (mC (mid false))),.c (.b (.v (.int .i64 0)))] by
   show SV.tup [.a (lsX (maC (mid false))),.c (.b (.v (.int .i64 (maK (mid false)))))]=_
   rw [(maC_fit (mid_fit false)).1,(maC_fit (mid_fit false)).2]] at k
  exact k,by kernel_rfl⟩
noncomputable def sOne:Spec Tryz.prog :=
 Spec.auto Tryz.call48 [] [] (.one (.a (lsX (mC (mid false))))) [] [sStill.e,sToldId.e] [] 400 Tryz.func48 hmA (by kernel_rfl) (fun β=>by kernel_rfl)
end Go.Proofs.YtbepimnlleilfaaGreat.Y
end
section
namespace Go.Proofs.YtbepimnlleilfaaGreat
open Go.Proofs.YtbepimnlleilfaaGreat.Y
open Go Go.RowKit
set_option maxRecDepth 100000
def zQ2 (k:Int):Y.Spec Tryz.prog:=Y.Spec.auto Tryz.call30 [.one (svI k)] [] (.one (svI k)) [] [] [] 400 Tryz.func30 hmA (by kernel_rfl) (fun β=>by kernel_rfl)
def sIn8 (n m:Int) (hn : -9223372036854775808≤n∧n≤9223372036854775807:=by decide) (hm : -9223372036854775808≤m∧m≤9223372036854775807:=by decide):Y.Spec Tryz.prog :=
 Y.Spec.auto Tryz.call39 [.one (svI n),.one (svI m)] [] (svG (gint n m)) [] [(sR4Int n m hn hm).e] [] 400 Tryz.func39 hmA (by kernel_rfl) (fun β=>by kernel_rfl)
def sAt8 (n m:Int) (hn : -9223372036854775808≤n∧n≤9223372036854775807:=by decide) (hm : -9223372036854775808≤m∧m≤9223372036854775807:=by decide):Y.Spec Tryz.prog :=
 Y.Spec.auto Tryz.call142 [.one (svI n),.one (svI m)] [] (svP (.fin (gint n m))) [] [(sIn8 n m hn hm).e] [] 400 Tryz.func142 hmA (by kernel_rfl) (fun β=>by kernel_rfl)
inductive T3 where
 | lo
 | mid
 | hi
def T3.at (s:ByteArray):T3→Prop
 | .lo=>decide ((120:Int)<(s.size:Int))=false
 | .mid=>decide ((120:Int)<(s.size:Int))=true∧decide ((s.size:Int)≤1024)=true
 | .hi=>decide ((120:Int)<(s.size:Int))=true∧decide ((s.size:Int)≤1024)=false
def T3.yes:T3→Bool
 | .mid=>true
 | _=>false
theorem T3.all (s:ByteArray):∃ k:T3,k.at s:=by
 cases h:decide ((120:Int)<(s.size:Int)) with
 | false=>exact ⟨.lo,h⟩
 | true=>cases h2:decide ((s.size:Int)≤1024) with
  | true=>exact ⟨.mid,h,h2⟩
  | false=>exact ⟨.hi,h,h2⟩
theorem T3.few {s:ByteArray} {k:T3} (h:k.at s) (h0:k.yes=false) (h1:s.size≤1024):s.size≤120:=by
 cases k
 · have:=of_decide_eq_false h
   omega
 · cases h0
 · have:=of_decide_eq_false h.2
   omega
theorem zQ8 {a b:Bool} (h:a=b):Value.bool a=.bool b:=by rw [h]
def evT (d1 d2:Nat) (s:ByteArray):(k:T3)→k.at s→List (Ev Tryz.prog)
 | .lo,h=>[.eqv d1 (.bool (decide ((120:Int)<(s.size:Int)))) (.bool false) (zQ8 h)]
 | .mid,h=>[.eqv d1 (.bool (decide ((120:Int)<(s.size:Int)))) (.bool true) (zQ8 h.1),.eqv d2 (.bool (decide ((s.size:Int)≤1024))) (.bool true) (zQ8 h.2)]
 | .hi,h=>[.eqv d1 (.bool (decide ((120:Int)<(s.size:Int)))) (.bool true) (zQ8 h.1),.eqv d2 (.bool (decide ((s.size:Int)≤1024))) (.bool false) (zQ8 h.2)]
def evT2 (x:R4) (a b:T3) (ha:a.at x.s) (hb:b.at x.t):List (Ev Tryz.prog):=evT 32 38 x.s a ha++(bif a.yes then [] else evT 45 51 x.t b hb)
theorem long_ok (x y:R4) (a b c d:T3) (ha:a.at x.s) (hb:b.at x.t) (hc:c.at y.s) (hd:d.at y.t) (β:Env) (w:World) (hh:(Ob.box (x.L++y.L) 46).holds β w (β 0)) :
  Calls Tryz.prog 139 (([.one (.c (.b (.s 0 0 1 1)))]:List SV).map (SV.den β)).toArray w fun e w'=>e=.returned (.bool ((a.yes||b.yes)||(c.yes||d.yes)))∧Below w.heap.size w w':=by
 cases a
 · cases b
   · cases c
     · cases d<;>exact qJ2 (evT2 x _ _ ha hb++evT2 y _ _ hc hd) [(4,13)] 1200 Tryz.func139 hmA (fun β=>by kernel_rfl) (by kernel_rfl) (fun β=>rfl) β w hh
     · exact qJ2 (evT2 x _ _ ha hb++evT2 y _ _ hc hd) [(4,13)] 1200 Tryz.func139 hmA (fun β=>by kernel_rfl) (by kernel_rfl) (fun β=>rfl) β w hh
     · cases d<;>exact qJ2 (evT2 x _ _ ha hb++evT2 y _ _ hc hd) [(4,13)] 1200 Tryz.func139 hmA (fun β=>by kernel_rfl) (by kernel_rfl) (fun β=>rfl) β w hh
   · exact qJ2 (evT2 x _ _ ha hb) [(4,13)] 1200 Tryz.func139 hmA (fun β=>by kernel_rfl) (by kernel_rfl) (fun β=>rfl) β w hh
   · cases c
     · cases d<;>exact qJ2 (evT2 x _ _ ha hb++evT2 y _ _ hc hd) [(4,13)] 1200 Tryz.func139 hmA (fun β=>by kernel_rfl) (by kernel_rfl) (fun β=>rfl) β w hh
     · exact qJ2 (evT2 x _ _ ha hb++evT2 y _ _ hc hd) [(4,13)] 1200 Tryz.func139 hmA (fun β=>by kernel_rfl) (by kernel_rfl) (fun β=>rfl) β w hh
     · cases d<;>exact qJ2 (evT2 x _ _ ha hb++evT2 y _ _ hc hd) [(4,13)] 1200 Tryz.func139 hmA (fun β=>by kernel_rfl) (by kernel_rfl) (fun β=>rfl) β w hh
 · exact qJ2 (evT2 x _ _ ha hb) [(4,13)] 1200 Tryz.func139 hmA (fun β=>by kernel_rfl) (by kernel_rfl) (fun β=>rfl) β w hh
 · cases b
   · cases c
     · cases d<;>exact qJ2 (evT2 x _ _ ha hb++evT2 y _ _ hc hd) [(4,13)] 1200 Tryz.func139 hmA (fun β=>by kernel_rfl) (by kernel_rfl) (fun β=>rfl) β w hh
     · exact qJ2 (evT2 x _ _ ha hb++evT2 y _ _ hc hd) [(4,13)] 1200 Tryz.func139 hmA (fun β=>by kernel_rfl) (by kernel_rfl) (fun β=>rfl) β w hh
     · cases d<;>exact qJ2 (evT2 x _ _ ha hb++evT2 y _ _ hc hd) [(4,13)] 1200 Tryz.func139 hmA (fun β=>by kernel_rfl) (by kernel_rfl) (fun β=>rfl) β w hh
   · exact qJ2 (evT2 x _ _ ha hb) [(4,13)] 1200 Tryz.func139 hmA (fun β=>by kernel_rfl) (by kernel_rfl) (fun β=>rfl) β w hh
   · cases c
     · cases d<;>exact qJ2 (evT2 x _ _ ha hb++evT2 y _ _ hc hd) [(4,13)] 1200 Tryz.func139 hmA (fun β=>by kernel_rfl) (by kernel_rfl) (fun β=>rfl) β w hh
     · exact qJ2 (evT2 x _ _ ha hb++evT2 y _ _ hc hd) [(4,13)] 1200 Tryz.func139 hmA (fun β=>by kernel_rfl) (by kernel_rfl) (fun β=>rfl) β w hh
     · cases d<;>exact qJ2 (evT2 x _ _ ha hb++evT2 y _ _ hc hd) [(4,13)] 1200 Tryz.func139 hmA (fun β=>by kernel_rfl) (by kernel_rfl) (fun β=>rfl) β w hh
structure Lg (x y:R4) (r:Bool):Prop where
 is:∃ a b c d:T3,a.at x.s∧b.at x.t∧c.at y.s∧d.at y.t∧((a.yes||b.yes)||(c.yes||d.yes))=r
theorem Lg.all (x y:R4):∃ r,Lg x y r:=by
 obtain ⟨a,ha⟩:=T3.all x.s
 obtain ⟨b,hb⟩:=T3.all x.t
 obtain ⟨c,hc⟩:=T3.all y.s
 obtain ⟨d,hd⟩:=T3.all y.t
 exact ⟨_,⟨a,b,c,d,ha,hb,hc,hd,rfl⟩⟩
def sLong (x y:R4) {r:Bool} (h:Lg x y r):BSpec Tryz.prog :=
 ⟨139,Tryz.call139,[.one (.c (.b (.s 0 0 1 1)))],x.L++y.L,46,.bool r,fun β w hh=>by
  obtain ⟨a,b,c,d,ha,hb,hc,hd,rfl⟩:=h.is
  exact long_ok x y a b c d ha hb hc hd β w hh,by kernel_rfl,fun _=>rfl⟩
theorem off3_ok (T:TypeId) (p q r:Rw) {t1 t2 t3:Bool} (h1:Lg p.x p.y t1) (h2:Lg q.x q.y t2) (h3:Lg r.x r.y t3) (β:Env) (w:World) (hh:(Ob.box (p.C++q.C++r.C) T).holds β w (β 0)) :
  Calls Tryz.prog 34 (([.one (.c (.b (.s 0 0 3 3)))]:List SV).map (SV.den β)).toArray w fun e w'=>e=.returned (.bool (t1||(t2||t3)))∧Below w.heap.size w w':=by
 cases t1
 · cases t2
   · cases t3<;>exact qJ2 [(sLong p.x p.y h1).e,(sLong q.x q.y h2).e,(sLong r.x r.y h3).e] [] 800 Tryz.func34 hmA (fun β=>by kernel_rfl) (by kernel_rfl) (fun β=>rfl) β w hh
   · exact qJ2 [(sLong p.x p.y h1).e,(sLong q.x q.y h2).e] [] 800 Tryz.func34 hmA (fun β=>by kernel_rfl) (by kernel_rfl) (fun β=>rfl) β w hh
 · exact qJ2 [(sLong p.x p.y h1).e] [] 800 Tryz.func34 hmA (fun β=>by kernel_rfl) (by kernel_rfl) (fun β=>rfl) β w hh
structure Off3 (p q r:Rw) (t:Bool):Prop where
 is:∃ a b c,Lg p.x p.y a∧Lg q.x q.y b∧Lg r.x r.y c∧(a||(b||c))=t
theorem Off3.all (p q r:Rw):∃ t,Off3 p q r t:=by
 obtain ⟨a,ha⟩:=Lg.all p.x p.y
 obtain ⟨b,hb⟩:=Lg.all q.x q.y
 obtain ⟨c,hc⟩:=Lg.all r.x r.y
 exact ⟨_,⟨a,b,c,ha,hb,hc,rfl⟩⟩
def sOff3 (T:TypeId) (p q r:Rw) {t:Bool} (h:Off3 p q r t):BSpec Tryz.prog :=
 ⟨34,Tryz.call34,[.one (.c (.b (.s 0 0 3 3)))],p.C++q.C++r.C,T,.bool t,fun β w hh=>by
  obtain ⟨a,b,c,ha,hb,hc,rfl⟩:=h.is
  exact off3_ok T p q r ha hb hc β w hh,by kernel_rfl,fun _=>rfl⟩
end Go.Proofs.YtbepimnlleilfaaGreat
end
section
namespace Go.Proofs.YtbepimnlleilfaaGreat.Y
open Go Go.RowKit
set_option maxRecDepth 100000
theorem fit10:FitG (gint 1 0):=qV7 (by decide) (by decide)
theorem fit00:FitG (gint 0 0):=qV7 (by decide) (by decide)
def frX (x:Rat) (h:Fit x):Fr:=⟨fR x,.ok x h,rfl⟩
def gpX (z:GQ) (h:FitG z):Gp:=⟨frX z.re h.1,frX z.im h.2⟩
def sR8Det {m:MQ} (h:MSz KD m):Spec Tryz.prog :=
 Spec.auto Tryz.call153 [svM m] [] (svG (mdet m)) []
  [(sR4Times (GSz.le h.a) (GSz.le h.d)).e,(sR4Times (GSz.le h.b) (GSz.le h.c)).e,(sR4Minus (h.a.mul h.d).le (h.b.mul h.c).le).e] [(1,11)] 400 Tryz.func153 hmA (by kernel_rfl) (fun β=>by kernel_rfl)
theorem rL_inj {x y:R4} (h:rL x=rL y):x=y:=by
 obtain ⟨b,s,c,t⟩:=x
 obtain ⟨b',s',c',t'⟩:=y
 simp only [rL,List.cons.injEq,Lf.b.injEq,Lf0.v.injEq,Value.bool.injEq,Value.string.injEq,and_true] at h
 obtain ⟨rfl,rfl,rfl,rfl⟩:=h
 rfl
inductive Gn where
 | ok (z:GQ) (h:FitG z)
 | no (g:Gp) (h:g.B=false)
def Gn.gp:Gn→Gp
 | .ok z h=>gpX z h
 | .no g _=>g
def Gn.x (g:Gn):R4:=g.gp.a.r
def Gn.y (g:Gn):R4:=g.gp.b.r
def Gn.B:Gn→Bool
 | .ok ..=>true
 | .no ..=>false
theorem Gn.gpB:∀ g:Gn,g.gp.B=g.B
 | .ok ..=>rfl
 | .no _ h=>h
def Gn.z:Gn→GQ
 | .ok z _=>z
 | .no ..=>g0
theorem fr_of (r:R4) (h:r.s.size≤maxLen∧r.t.size≤maxLen):∃ a:Fr,a.r=r:=by
 obtain ⟨a,ha⟩:=fp_of r h.1 h.2
 exact ⟨⟨r,a,by rw [← ha]; cases a<;>rfl⟩,rfl⟩
theorem gn_of (x y:R4) (hx:x.s.size≤maxLen∧x.t.size≤maxLen) (hy:y.s.size≤maxLen∧y.t.size≤maxLen):∃ g:Gn,g.x=x∧g.y=y:=by
 obtain ⟨a,rfl⟩:=fr_of x hx
 obtain ⟨b,rfl⟩:=fr_of y hy
 cases h:(Gp.mk a b).B with
 | false=>exact ⟨.no ⟨a,b⟩ h,rfl,rfl⟩
 | true =>
  have h':=Bool.and_eq_true_iff.1 h
  obtain ⟨ra,fa,ea⟩:=a
  obtain ⟨rb,fb,eb⟩:=b
  cases fa with
  | no=>cases h'.1
  | ok x hx2=>cases fb with
   | no=>cases h'.2
   | ok y hy2 =>
    refine ⟨.ok ⟨x,y⟩ ⟨hx2,hy2⟩,rL_inj ?_,rL_inj ?_⟩
    · exact ea
    · exact eb
end Go.Proofs.YtbepimnlleilfaaGreat.Y
end
section
namespace Go.Proofs.YtbepimnlleilfaaGreat
open Go Go.RowKit
set_option maxRecDepth 100000
set_option maxHeartbeats 1000000 in
theorem bwd_any (a:Option Addr) (len cap:Nat) (w:World) :
  Calls Tryz.prog 166 #[.slice a len cap] w fun e w'=>e=.returned (.func (.func 294) #[] #[.pointer (some ⟨w.heap.size,0,none⟩)])∧w'=w.alloc (.cells #[.slice a len cap] 74):=by
 refine (callsIn_wide (n:=1)).1 ?_
 refine callsIn_of_wp Tryz.func166 rfl trivial ?_ rfl
 simp only [Tryz.ntmps166,List.size_toArray,List.length_cons,List.length_nil,Nat.reduceAdd,Nat.reduceSub,Array.replicate_succ,Array.replicate_zero,List.push_toArray,List.append_toArray,List.nil_append,List.cons_append]
 gi_wp2
 go_ret
 exact ⟨rfl,rfl⟩
end Go.Proofs.YtbepimnlleilfaaGreat
namespace Go.Proofs.YtbepimnlleilfaaGreat.Y
open Go Go.RowKit
set_option maxRecDepth 100000
abbrev mcI (k:Int):SC:=.c (.b (.v (.int .i64 k)))
abbrev MOB:TypeId:=48
abbrev BWF:FuncId:=294
def bwPl (b:Nat):Pl:=⟨b,fun i=>some ⟨b,i,none⟩,fun _=>0,fun c=>c=b,fun _=>undef⟩
theorem bwd_own {i n:Nat} (h:Nat.blt i n=true) (β:Env) (w:World):Calls Tryz.prog 166 #[.slice (some ⟨(β i).b,0,none⟩) 2 2] w fun e w'=>∃ (g:Pl) (xs:List Pl),(w.heap.size≤g.b∧fresh β w [] xs∧∀ x∈xs,¬ x.F g.b)∧e=.returned ((SV.one (.c (.f (.func BWF) [] [.p n 0]))).den (extE β n (g::xs)))∧(Ob.box [.b (.s i 0 2 2)] 74).holds (extE β n (g::xs)) w' g∧qZ0 w' [] xs∧Below w.heap.size w w':=by
 rw [Nat.blt_eq] at h
 refine (bwd_any _ 2 2 w).mono fun e w' ⟨he,hw⟩=>?_
 subst hw
 have e1:extE β n [bwPl w.heap.size] n=bwPl w.heap.size:=by
  have:=qX7 (β:=β) (n:=n) (xs:=[bwPl w.heap.size]) (i:=0) rfl
  simpa using this
 have e2:extE β n [bwPl w.heap.size] i=β i:=qK6 (by simp; omega)
 refine ⟨bwPl w.heap.size,[],⟨Nat.le_refl _,(fun x hx=>by cases hx),fun x hx=>by cases hx⟩,?_,⟨⟨fun c=>Iff.rfl,fun i=>rfl⟩,?_⟩,trivial,?_⟩
 · rw [he]
   show _=Ending.returned (Value.func (.func BWF) #[] #[.pointer (some ⟨(extE β n [bwPl w.heap.size] n).b,0,none⟩)])
   rw [e1]
   rfl
 · show (w.alloc _).heap[w.heap.size]?=some (.cells #[.slice (some ⟨(extE β n [bwPl w.heap.size] i).b,0,none⟩) 2 2] _ (0,0))
   rw [e2,alloc_heap]
   simp
 · exact ((Below.refl _ w).alloc (Nat.le_refl _) _)
def evBwd:Ev Tryz.prog:=.dyn (fun o _ _=>qY3 o) fun _ xs ob=>lit (bkOf xs) fun i=>lit ob.length fun n=>match h:Nat.blt i n with
 | true=>.own 166 Tryz.call166 (fun β=>#[.slice (some ⟨(β i).b,0,none⟩) 2 2]) [] n (.box [.b (.s i 0 2 2)] 74) (.one (.c (.f (.func BWF) [] [.p n 0]))) [] (fun β w _=>bwd_own h β w)
 | false=>.cut
def mc2L (m q:MQ):List Lf:=mCl m++mCl q
abbrev mcNeed (m q:MQ) (K:Nat):List (Nat × Ob):=[(0,.box (mc2L m q) MOB),(K,.box [.b (.s 0 0 2 2)] 74)]
abbrev mcVs (m q:MQ):List (List SV):=[[.one (.c (.b (.v (.int .i64 1)))),.one (.a (mCl q))],[.one (.c (.b (.v (.int .i64 0)))),.one (.a (mCl m))]]
theorem mCl_len (m:MQ):(mCl m).length=33:=rfl
theorem mc_iter (m q:MQ) (K:Nat) (β:Env) (nn l:Nat) (J:Nat→World→Prop) (Jx:World→Prop) (W:World) (hJ:∀ k W,J k W→qX2 β W (mcNeed m q K))
  (hY:∀ k W1,J k W1→k<(mcVs m q).length→YieldAt Fence.wide (nn-1) Tryz.prog l (((mcVs m q).getD k []).map (SV.den β)).toArray W1 fun e W'=>(e=.returned (.bool true)∧J (k+1) W')∨(e=.returned (.bool false)∧Jx W')) (h0:J 0 W) :
  CallsIn Fence.wide nn Tryz.prog BWF (#[.func (.yield l) #[] #[]]++#[.pointer (some ⟨(β K).b,0,none⟩)]) W fun e W'=>(∃ v,e=.returned v)∧(J (mcVs m q).length W'∨Jx W'):=by
 refine bwd1_in nn l (β K).b (β 0).b 2 2 (fun i=>if i=0 then (mCl m).map (Lf.den β) else (mCl q).map (Lf.den β)) (fun i=>?_) (by decide) J Jx (fun k W hj=>?_) (fun k W hj hk=>?_) W h0
 · split<;>(rw [List.length_map,mCl_len])
 · have h:=hJ k W hj
   have h1:(Ob.box (mc2L m q) MOB).holds β W (β 0):=h (0,_) (by simp)
   have h2:(Ob.box [.b (.s 0 0 2 2)] 74).holds β W (β K):=h (K,_) (by simp)
   refine ⟨?_,fun i hi j v hv=>?_⟩
   · simp only [World.cell?,h2.2]
     rfl
   · have hc:((mc2L m q).map (Lf.den β))[i*33+j]?=some v:=by
      unfold mc2L
      rw [List.map_append]
      match i,hi with
      | 0,_ =>
       have hv:((mCl m).map (Lf.den β))[j]?=some v:=hv
       rw [Nat.zero_mul,Nat.zero_add,List.getElem?_append_left (List.getElem?_eq_some_iff.1 hv).1]
       exact hv
      | 1,_ =>
       have hv:((mCl q).map (Lf.den β))[j]?=some v:=hv
       rw [List.getElem?_append_right (by rw [List.length_map,mCl_len]; omega),List.length_map,mCl_len]
       rw [show 1*33+j-33=j by omega]
       exact hv
     simp only [World.cell?,h1.2]
     simpa using hc
 · match k,hk with
   | 0,_=>exact hY 0 W hj (Nat.zero_lt_succ _)
   | 1,_=>exact hY 1 W hj (Nat.lt_succ_self _)
def sMbChk {q:MQ} (h:MayQ q):Spec Tryz.prog :=
 Spec.auto Tryz.call44 [.one (.a (mCl q))] [] (.one (mcI 0)) [] [(zQ6 h).e] [] 400 Tryz.func44 hmA (by kernel_rfl) (fun β=>by kernel_rfl)
def sMbChkNo {m:Mp} {t:Bool} (h:OpenNo m t):Spec Tryz.prog :=
 Spec.auto Tryz.call44 [.one (.a m.C)] [] (.one (mcI 2)) [] [(sOpenNo h).e] [] 400 Tryz.func44 hmA (by kernel_rfl) (fun β=>by kernel_rfl)
def sMcp1 {q:MQ} (h:MayQ q):Spec Tryz.prog :=
 Spec.auto Tryz.call165 [.one (.a (mCl q))] [] (svB false) [] [(sMbChk h).e] [] 400 Tryz.func165 hmA (by kernel_rfl) (fun β=>by kernel_rfl)
abbrev mcA:List SV:=[.one (.c (.b (.s 0 0 2 2)))]
abbrev mcFA:List SV:=[.one (.c (.b (.s 0 0 2 2))),(.one (.c (.f (.func 165) [] [])))]
section
variable {m q:MQ} (hm:MayQ m) (hq:MayQ q)
include hm hq
theorem mcIdx_ok (β:Env) (w:World) (hh:(Ob.box (mc2L m q) MOB).holds β w (β 0)) :
  Calls Tryz.prog 293 (mcFA.map (SV.den β)).toArray w fun e w'=>e=.returned (.int .i64 (-1))∧Below w.heap.size w w' :=
 qJ2 [(sMcp1 hm).e,(sMcp1 hq).e] [] 800 Tryz.func293 hmA (fun β=>by kernel_rfl) (by kernel_rfl) (fun β=>rfl) β w hh
end
noncomputable def sMcIdx {m q:MQ} (hm:MayQ m) (hq:MayQ q):BSpec Tryz.prog :=
 ⟨293,Tryz.call293,mcFA,mc2L m q,MOB,.int .i64 (-1),mcIdx_ok hm hq,by kernel_rfl,fun _=>rfl⟩
theorem mcHas_ok {m q:MQ} (hm:MayQ m) (hq:MayQ q) (β:Env) (w:World) (hh:(Ob.box (mc2L m q) MOB).holds β w (β 0)) :
  Calls Tryz.prog 164 (mcFA.map (SV.den β)).toArray w fun e w'=>e=.returned (.bool false)∧Below w.heap.size w w' :=
 qJ2 [(sMcIdx hm hq).e] [] 800 Tryz.func164 hmA (fun β=>by kernel_rfl) (by kernel_rfl) (fun β=>rfl) β w hh
noncomputable def sMcHas {m q:MQ} (hm:MayQ m) (hq:MayQ q):BSpec Tryz.prog :=
 ⟨164,Tryz.call164,mcFA,mc2L m q,MOB,.bool false,mcHas_ok hm hq,by kernel_rfl,fun _=>rfl⟩
theorem ma_fit {m:MQ} (h:FitM m):maC m=mCl m∧maK m=0:=by
 refine ⟨?_,(maC_yes h).2⟩
 unfold maC mCl
 simp only [gsC_yes h]
 rw [show selB (FitM m) m.t=m.t from if_pos h]
theorem mbeh_idr (m:MQ):mbeh m (qV1 false)=m:=by
 obtain ⟨⟨a1,a2⟩,⟨b1,b2⟩,⟨c1,c2⟩,⟨d1,d2⟩,t⟩:=m
 cases t<;>(simp only [mbeh,qV1,zK5,cond_true,cond_false,gint10,gmul,gadd,qW6,g0]; congr 1<;>(congr 1<;>grind))
theorem mcmp_idr {m:MQ} (h:Nrm m):mcmp m (qV1 false)=m:=by
 unfold mcmp
 rw [mbeh_idr,h.id]
theorem mcStill_sz:MSz KE (qV1 false):=⟨(GSz.int (by decide) (by decide)).mono (by decide),g0_sz (by decide),g0_sz (by decide),(GSz.int (by decide) (by decide)).mono (by decide)⟩
theorem reg_still:Reg (qV1 false):=Reg.id false
section
variable {m q:MQ} (hm:MayQ m) (hq:MayQ q)
abbrev mcX0 (q:MQ):MQ:=mcmp q (qV1 false)
abbrev mcX1 (m q:MQ):MQ:=mcmp m (mcX0 q)
include hq in
theorem mcX0_eq:mcX0 q=q:=mcmp_idr hq.nrm
include hq in
theorem mcX0_sz:MSz 1024 (mcX0 q):=by rw [mcX0_eq hq]; exact qX3 hq.1
include hq in
theorem mcX0_reg:Reg (mcX0 q):=by rw [mcX0_eq hq]; exact hq.reg
include hm hq in
theorem mcX1_sz:MSz (dsz (bsz 1024 1024)) (mcX1 m q):=mcmp_sz (qX3 hm.1) (mcX0_sz hq) (hm.reg.beh (mcX0_reg hq))
noncomputable def mcT0:Spec Tryz.prog:=(sToldN ((mcX0_sz hq).mono (by decide)) (Nrm.cmp hq.reg reg_still)).conv (.tup [.a (lsX (mCl q)),mcI 0]) (by
 show SV.tup [.a (lsX (maC (mcX0 q))),.c (.b (.v (.int .i64 (maK (mcX0 q)))))]=_
 rw [mcX0_eq hq,(ma_fit hq.1).1,(ma_fit hq.1).2])
noncomputable def mcT1:Spec Tryz.prog:=sToldN ((mcX1_sz hm hq).mono (by decide)) (Nrm.cmp hm.reg (mcX0_reg hq))
noncomputable def mcT1Y (hF:FitM (mcX1 m q)):Spec Tryz.prog:=(mcT1 hm hq).conv (.tup [.a (lsX (mCl (mcX1 m q))),mcI 0]) (by
 show SV.tup [.a (lsX (maC (mcX1 m q))),.c (.b (.v (.int .i64 (maK (mcX1 m q)))))]=_
 rw [(ma_fit hF).1,(ma_fit hF).2])
noncomputable def mcT1N (hF:¬ FitM (mcX1 m q)):Spec Tryz.prog:=(mcT1 hm hq).conv (.tup [mob0,mcI 4]) (by
 show SV.tup [.a (lsX (maC (mcX1 m q))),.c (.b (.v (.int .i64 (maK (mcX1 m q)))))]=_
 rw [(zH7 hF).1,(zH7 hF).2]
 rfl)
noncomputable def mcE (last:List (Ev Tryz.prog)):List (Ev Tryz.prog) :=
 [(sMcHas hm hq).e,sStill.e,evBwd,(zQ6 hq).e,(sBehR ((qX3 hq.1).mono (by decide)) mcStill_sz (hq.reg.beh reg_still)).e,(mcT0 hq).e,
  (zQ6 hm).e,(sBehR ((qX3 hm.1).mono (by decide)) ((mcX0_sz hq).mono (by decide)) (hm.reg.beh (mcX0_reg hq))).e]++last
end
abbrev mcNs:List (Nat × Nat):=[]
abbrev mcRY (m q:MQ):SV:=.tup [.a (mCl (mcX1 m q)),mcI 0]
theorem mcY_ok {m q:MQ} (hm:MayQ m) (hq:MayQ q) (hF:FitM (mcX1 m q)) (β:Env) (w:World) (hh:(Ob.box (mc2L m q) MOB).holds β w (β 0)) :
  Calls Tryz.prog 40 (mcA.map (SV.den β)).toArray w fun e w'=>e=.returned ((mcRY m q).den β)∧Below w.heap.size w w' :=
 sx_range mcA [.box (mc2L m q) MOB] (mcE hm hq [(mcT1Y hm hq hF).e,(mcT1Y hm hq hF).e]) mcNs 2000 (mcRY m q) (mcNeed m q 12) (mcVs m q) BWF (fun β=>#[.pointer (some ⟨(β 12).b,0,none⟩)]) Tryz.func40 hmA Tryz.call294 (mc_iter m q 12)
  (fun β=>qQ0 (by kernel_rfl)) (by kernel_rfl) (by kernel_rfl) (fun _ _=>rfl) β w (fun k o ho=>by
   cases k with
   | zero=>simp only [List.getElem?_cons_zero] at ho; obtain rfl:=Option.some.inj ho; exact hh
   | succ k=>simp at ho)
abbrev mcRN:SV:=.tup [mob0,mcI 4]
theorem mcN_ok {m q:MQ} (hm:MayQ m) (hq:MayQ q) (hF:¬ FitM (mcX1 m q)) (β:Env) (w:World) (hh:(Ob.box (mc2L m q) MOB).holds β w (β 0)) :
  Calls Tryz.prog 40 (mcA.map (SV.den β)).toArray w fun e w'=>e=.returned (mcRN.den β)∧Below w.heap.size w w' :=
 sx_range mcA [.box (mc2L m q) MOB] (mcE hm hq [(mcT1N hm hq hF).e]) mcNs 2000 mcRN (mcNeed m q 12) (mcVs m q) BWF (fun β=>#[.pointer (some ⟨(β 12).b,0,none⟩)]) Tryz.func40 hmA Tryz.call294 (mc_iter m q 12)
  (fun β=>qQ0 (by kernel_rfl)) (by kernel_rfl) (by kernel_rfl) (fun _ _=>rfl) β w (fun k o ho=>by
   cases k with
   | zero=>simp only [List.getElem?_cons_zero] at ho; obtain rfl:=Option.some.inj ho; exact hh
   | succ k=>simp at ho)
noncomputable def sCompY {m q:MQ} (hm:MayQ m) (hq:MayQ q) (hF:FitM (mcmp m q)):BSpec Tryz.prog :=
 ⟨40,Tryz.call40,mcA,mc2L m q,MOB,(SV.tup [.a (mCl (mcmp m q)),mcI 0]).den idE,fun β w hh=>by
  have e:mcX1 m q=mcmp m q:=by unfold mcX1; rw [mcX0_eq hq]
  refine (mcY_ok hm hq (e▸hF) β w hh).mono fun e' w' ⟨he,hb⟩=>⟨?_,hb⟩
  rw [he]
  unfold mcRY
  rw [e]
  rfl,by kernel_rfl,fun β=>by kernel_rfl⟩
noncomputable def sCompN {m q:MQ} (hm:MayQ m) (hq:MayQ q) (hF:¬ FitM (mcmp m q)):BSpec Tryz.prog :=
 ⟨40,Tryz.call40,mcA,mc2L m q,MOB,(SV.tup [mob0,mcI 4]).den idE,fun β w hh=>by
  have e:mcX1 m q=mcmp m q:=by unfold mcX1; rw [mcX0_eq hq]
  refine (mcN_ok hm hq (e▸hF) β w hh).mono fun e' w' ⟨he,hb⟩=>⟨?_,hb⟩
  rw [he]
  rfl,by kernel_rfl,fun β=>by kernel_rfl⟩
end Go.Proofs.YtbepimnlleilfaaGreat.Y
end
section
namespace Go.Proofs.YtbepimnlleilfaaGreat.Y
open Go Go.RowKit
set_option maxRecDepth 100000
def RwD (sz n:Nat) (L:Nat→List Lf) (w:World) (g:Pl):Prop :=
 (n=0∧∀ c,¬ g.F c)∨(0<n∧∃ b o cs t fr,(∀ m,g.v m=some ⟨b,o+m,none⟩)∧(∀ c,g.F c↔c=b)∧w.heap[b]?=some (.cells cs t fr)∧∀ j,j<n→w.rangeAt b (o+j*sz) ((L j).map (Lf.den idE)))
theorem RwD.heap {sz n:Nat} {L:Nat→List Lf} {w w':World} {g:Pl} (h:RwD sz n L w g) (k:∀ b,g.F b→w'.heap[b]?=w.heap[b]?):RwD sz n L w' g:=by
 rcases h with h | ⟨h0,b,o,cs,t,fr,h1,h2,h3,h4⟩
 · exact .inl h
 · have e:=k b ((h2 b).2 rfl)
   refine .inr ⟨h0,b,o,cs,t,fr,h1,h2,by rw [e]; exact h3,fun j hj i v hv=>?_⟩
   have:=h4 j hj i v hv
   rw [cell_of_row _ _ _ _ _ _ h3] at this
   rw [cell_of_row _ _ _ _ _ _ (by rw [e]; exact h3)]
   exact this
theorem RwD.lt {sz n:Nat} {L:Nat→List Lf} {w:World} {g:Pl} (h:RwD sz n L w g) (c:Nat) (hc:g.F c):c<w.heap.size:=by
 rcases h with h | ⟨h0,b,o,cs,t,fr,h1,h2,h3,h4⟩
 · exact absurd hc (h.2 c)
 · rw [(h2 c).1 hc]
   exact qZ6 h3
theorem lsRw_stable (sz n:Nat) (L:Nat→List Lf):Stable (RwD sz n L) :=
 ⟨fun w g h c hc=>h.lt c hc,fun w w' g h k=>h.heap fun b hb=>k.block b (h.lt b hb),
  fun w w' g b o m s h hs ht hF=>h.heap fun c hc=>ht.block c (h.lt c hc) (fun e=>hF (e▸hc))⟩
def rwT (sz n:Nat) (L:Nat→List Lf):Thing:=thing (RwD sz n L) (lsRw_stable sz n L)
def lsYOf:SV→Nat
 | .one (.c (.b (.y k _ _)))=>k
 | _=>0
def lsZOf:SV→Nat
 | .one (.c (.b (.z k _)))=>k
 | _=>0
theorem ls_ix {T:TypeId} (hu:Tryz.prog.underlying T=some (.slice (Tryz.prog.elem T))) {sz:Nat} (hs:(Tryz.prog.info? (Tryz.prog.elem T)).map (·.size)=some sz) {n N j:Nat} {L:Nat→List Lf} (hj:j<n) (hN:n≤N) (k:Nat) (x y:Operand) (β:Env) (w:World) (h:qX2 β w [(k,(rwT sz N L).ob)]) (ρ:Operand→Value) (o:Oper) (ho:o.op=.indexAddr T x y)
  (hx:(Op.indexAddr T x y).operands.toList.map ρ=[.slice ((β k).v 0) n ((β k).c 0),.int .i64 (j:Int)]):∃ ys w',fresh β w [(k,(rwT sz N L).ob)] ys∧(execOp ρ o).run Tryz.prog w=.ok (.value ((SV.one (.c (.b (.z k (j*sz))))).den (extE β 0 ys))) w'∧qZ0 w' [] ys∧Below w.heap.size w w':=by
 have h1:RwD sz N L w (β k):=h _ (List.mem_singleton.2 rfl)
 have h3:ρ x=.slice ((β k).v 0) n ((β k).c 0)∧ρ y=.int .i64 (j:Int):=by simpa [Op.operands] using hx
 rcases h1 with h1 | ⟨h0,b,of,cs,t,fr,h1,h2,h4,h5⟩
 · omega
 refine ⟨[],w,(fun _ h=>by cases h),?_,trivial,Below.refl _ _⟩
 unfold execOp
 rw [ho]
 dsimp only
 rw [h3.1,h3.2,h1 0]
 have e:((SV.one (.c (.b (.z k (j*sz))))).den (extE β 0 []))=.pointer (some ⟨b,of+j*sz,none⟩):=by
  show Value.pointer ((β k).v (j*sz))=_
  rw [h1]
 rw [e]
 have hz:((sizeOf (Tryz.prog.elem T)).run Tryz.prog w)=.ok sz w:=by
  cases hq:Tryz.prog.info? (Tryz.prog.elem T) with
  | none=>simp [hq] at hs
  | some i =>
   have hs:i.size=sz:=by simpa [hq] using hs
   simp [sizeOf,typeInfo,hq,hs]
 have h6:=run_indexAt_slice (P:=Tryz.prog) (w:=w) T ⟨b,of,none⟩ n ((β k).c 0) .i64 (j:Int) hu
 rw [if_pos ⟨by omega,by omega⟩,hz] at h6
 simp only [Result.andThen_ok,Int.toNat_natCast,Addr.add_mid] at h6
 simp [go_sem,Nat.add_zero,h6]
def eIx {T:TypeId} (hu:Tryz.prog.underlying T=some (.slice (Tryz.prog.elem T))) {sz:Nat} (hs:(Tryz.prog.info? (Tryz.prog.elem T)).map (·.size)=some sz) {n N j:Nat} (L:Nat→List Lf) (hj:j<n) (hN:n≤N):Ev Tryz.prog:=.dyn (fun o _ _=>match o.op with
 | .indexAddr t _ _=>Nat.beq t T
 | _=>false) fun o xs _=>match o.op with
 | .indexAddr _ x y=>lit (lsYOf (xs.getD 0 qK7)) fun k=>.rd (o.dst.getD 0) (.indexAddr T x y) (fun β=>[.slice ((β k).v 0) n ((β k).c 0),.int .i64 (j:Int)]) [(k,(rwT sz N L).ob)] 0 (.one (.c (.b (.z k (j*sz))))) [] (fun β w h ρ o ho hx=>ls_ix hu hs hj hN k x y β w h ρ o ho hx)
 | _=>.cut
theorem ls_ld {T:TypeId} {d:TypeDesc} (hu:Tryz.prog.underlying T=some d) (hd:d.isRow=true) {sz:Nat} {n j:Nat} {L:Nat→List Lf} (hs:(Tryz.prog.info? T).map (·.size)=some (L j).length) (hL:∀ β,(L j).map (Lf.den β)=(L j).map (Lf.den idE)) (hj:j<n) (k:Nat) (x:Operand) (β:Env) (w:World) (h:qX2 β w [(k,(rwT sz n L).ob)]) (ρ:Operand→Value) (o:Oper) (ho:o.op=.load T x)
  (hx:(Op.load T x).operands.toList.map ρ=[.pointer ((β k).v (j*sz))]):∃ ys w',fresh β w [(k,(rwT sz n L).ob)] ys∧(execOp ρ o).run Tryz.prog w=.ok (.value ((SV.one (.a (L j))).den (extE β 0 ys))) w'∧qZ0 w' [] ys∧Below w.heap.size w w':=by
 have h1:RwD sz n L w (β k):=h _ (List.mem_singleton.2 rfl)
 have h3:ρ x=.pointer ((β k).v (j*sz)):=by simpa [Op.operands] using hx
 rcases h1 with h1 | ⟨h0,b,of,cs,t,fr,h1,h2,h4,h5⟩
 · omega
 refine ⟨[],w,(fun _ h=>by cases h),?_,trivial,Below.refl _ _⟩
 unfold execOp
 rw [ho]
 dsimp only
 rw [h3,h1]
 have h6:=run_loadAt_mid (P:=Tryz.prog) w b (of+j*sz) T ((L j).map (Lf.den idE)) d (h5 j hj) hu hd (by rw [List.length_map]; exact hs)
 have e:((SV.one (.a (L j))).den (extE β 0 []))=.agg ((L j).map (Lf.den idE)).toArray:=by
  show Value.agg ((L j).map (Lf.den (extE β 0 []))).toArray=_
  rw [hL]
 rw [e]
 simp only [Sem.run_bind,h6,Result.andThen_ok]
 rfl
def eLd {T:TypeId} {d:TypeDesc} (hu:Tryz.prog.underlying T=some d) (hd:d.isRow=true) (sz:Nat) {n j:Nat} {L:Nat→List Lf} (hs:(Tryz.prog.info? T).map (·.size)=some (L j).length) (hL:∀ β,(L j).map (Lf.den β)=(L j).map (Lf.den idE)) (hj:j<n):Ev Tryz.prog:=.dyn (fun o xs _=>match o.op with
 | .load t _=>Nat.beq t T
 | _=>false) fun o xs _=>match o.op with
 | .load _ x=>lit (lsZOf (xs.getD 0 qK7)) fun k=>.rd (o.dst.getD 0) (.load T x) (fun β=>[.pointer ((β k).v (j*sz))]) [(k,(rwT sz n L).ob)] 0 (.one (.a (L j))) [] (fun β w h ρ o ho hx=>ls_ld hu hd hs hL hj k x β w h ρ o ho hx)
 | _=>.cut
theorem app_core {P:Program} (A:AppT P) (w:World) (ty:TypeId) {n m:Nat} {xs news:List Value} (old:Option (Nat × Nat)) (v:Value)
  (hold:(old=none∧n=0∧xs=[]∧v=.slice none 0 0)∨∃ b c,old=some (b,c)∧v=.slice (some ⟨b,0,none⟩) n c∧w.ownsRow 0 A.e A.sz v n xs)
  (ad:Addr) (cc:Nat) (hl:news.length=m*A.sz) (hnews:∀ j u,news[j]?=some u→w.cell? (ad.add j)=some u) (h1:∀ u∈news,u.oneCell'=true) (hm:0<m) (h63:n+m≤maxLen) (hb:(n+m)*A.bytes≤140737488355328) :
  ∃ g cap w',(Builtin.append_ #[A.t,A.t] ty #[v,.slice (some ad) m cc]).run P w=.ok (.slice (some ⟨g,0,none⟩) (n+m) cap) w'∧w'.ownsRow 0 A.e A.sz (.slice (some ⟨g,0,none⟩) (n+m) cap) (n+m) (xs++news) ∧
   ((w.heap.size≤g∧Below w.heap.size w w')∨∃ c,old=some (g,c)∧∃ N,Slot w g 0 N∧Touch w w' g 0 N):=by
 have hsmall:n+m≤9223372036854775807:=by simp only [maxLen] at h63; omega
 have grown:∀ (o:Nat),o<n+m→xs.length=n*A.sz →
   (w.drew.alloc (.cells (xs.toArray++news.toArray++Builtin.zeroCells A.z.cells (grownCap w (n+m) o A.e-(n+m))) A.e)).ownsRow 0 A.e A.sz
    (.slice (some ⟨w.heap.size,0,none⟩) (n+m) (grownCap w (n+m) o A.e)) (n+m) (xs++news) ∧
   Below w.heap.size w (w.drew.alloc (.cells (xs.toArray++news.toArray++Builtin.zeroCells A.z.cells (grownCap w (n+m) o A.e-(n+m))) A.e)):=by
  intro o ho hx
  have hge:=grownCap_ge w (n+m) o A.e
  have hcm:grownCap w (n+m) o A.e≤maxLen:=grownCap_le_maxLen w (n+m) o A.e h63
  have hlen:(xs++news).length=(n+m)*A.sz:=by rw [List.length_append,hx,hl,Nat.add_mul]
  refine ⟨⟨hlen,.inr ⟨w.heap.size,_,_,rfl,Nat.zero_le _,heap_alloc_new w.drew _,hge,hcm,?_,?_⟩⟩,⟨rfl,rfl,rfl,by simp,fun k hk=>Below.heap_alloc w.drew _ k hk⟩⟩
  · simp only [Array.size_append,List.size_toArray,size_zeroCells,A.hzs,hx,hl,← Nat.add_mul]
    congr 1
    omega
  · simp only [Array.toList_append,List.append_assoc]
    rw [← List.append_assoc,← hlen]
    exact List.take_left
 rcases hold with ⟨rfl,rfl,rfl,rfl⟩ | ⟨b,c,rfl,rfl,hown⟩
 · obtain ⟨g1,g2⟩:=grown 0 (by omega) (by simp)
   refine ⟨w.heap.size,grownCap w (0+m) 0 A.e,_,?_,g1,.inl ⟨Nat.le_refl _,g2⟩⟩
   have:=run_append_nil (P:=P) w A.t ty A.e A.i A.z A.ht A.hi A.hz ad m cc news (by rw [A.hsize]; exact hl) hnews hm (by omega) (by rw [A.hby]; rw [Nat.zero_add] at hb; omega)
   simpa using this
 · have hown2:=hown
   obtain ⟨hxl,h2⟩:=hown
   rcases h2 with ⟨e,_⟩ | ⟨g,cap,cur,e,_,hh,hnc,hcm,hcs,ht⟩
   · cases e
   injection e with e1 e2 e3
   injection e1 with e1
   injection e1 with e1
   subst e1 e3
   by_cases hroom:n+m≤c
   · have hfit:n*A.i.size+news.length≤cur.size:=by rw [hl,hcs,A.hsize,← Nat.add_mul]; exact Nat.mul_le_mul_right _ hroom
     have hr:=run_append_room (P:=P) w A.t ty A.e A.i A.ht A.hi b n c cur hh ad m cc news (by rw [A.hsize]; exact hl) hnews h1 hroom hfit
     have hsize:(cur.toList.take (n*A.i.size)++news++cur.toList.drop (n*A.i.size+news.length)).toArray.size=cur.size:=by
      simp only [List.size_toArray,List.length_append,List.length_take,List.length_drop,Array.length_toList]
      omega
     refine ⟨b,c,_,hr,⟨by rw [List.length_append,hxl,hl,Nat.add_mul],.inr ⟨b,c,_,rfl,Nat.zero_le _,setRow_heap w b cur _ A.e _ hh,hroom,hcm,by rw [hsize]; exact hcs,?_⟩⟩,.inr ⟨c,rfl,cur.size,⟨cur,A.e,hh,A.he,by omega⟩,?_⟩⟩
     · rw [A.hsize,ht]
       have hlen:(xs++news).length=(n+m)*A.sz:=by rw [List.length_append,hxl,hl,Nat.add_mul]
       rw [← hlen]
       exact List.take_left
     · exact ⟨rfl,rfl,rfl,by simp,fun k hk hne=>setRow_other w _ k _ hne,fun cs2 t2 fr2 h2=>by
        rw [hh] at h2
        obtain ⟨rfl,rfl,rfl⟩:=Obj.cells.inj (Option.some.inj h2)
        refine ⟨_,setRow_heap w _ _ _ _ _ hh,hsize,fun j hj=>?_⟩
        have hj2:cur.size≤j:=by omega
        rw [Array.getElem?_eq_none (by rw [hsize]; exact hj2),Array.getElem?_eq_none hj2]⟩
   · obtain ⟨g1,g2⟩:=grown c (by omega) hxl
     refine ⟨w.heap.size,grownCap w (n+m) c A.e,_,?_,g1,.inl ⟨Nat.le_refl _,g2⟩⟩
     exact run_append_grow (P:=P) w A.t ty A.e A.i A.z A.ht A.hi A.hz ⟨b,0,none⟩ n c xs (by rw [A.hsize]; exact hxl) (fun j u hu=>by
      have hj:j<n*A.sz:=by have:=(List.getElem?_eq_some_iff.1 hu).1; omega
      have:=hown2.cellAt j hj
      rw [Addr.add_mid,Nat.zero_add,this]
      exact hu) ad m cc news (by rw [A.hsize]; exact hl) hnews (by omega) (by omega) (growslice_fits (by omega) (by rw [A.hby]; exact hb))
def rwCs (L:Nat→List Lf) (n:Nat):List Value:=(List.range n).flatMap fun j=>(L j).map (Lf.den idE)
theorem rwCs_succ (L:Nat→List Lf) (n:Nat):rwCs L (n+1)=rwCs L n++(L n).map (Lf.den idE):=by
 unfold rwCs
 rw [List.range_succ,List.flatMap_append,List.flatMap_cons,List.flatMap_nil,List.append_nil]
theorem rwCs_len {sz:Nat} {L:Nat→List Lf}:∀ n,(∀ j,j<n→(L j).length=sz)→(rwCs L n).length=n*sz
 | 0,_=>by simp [rwCs]
 | n+1,h=>by rw [rwCs_succ,List.length_append,rwCs_len n fun j hj=>h j (by omega),List.length_map,h n (by omega),Nat.add_mul,Nat.one_mul]
theorem rwCs_get {sz:Nat} {L:Nat→List Lf} {i e:Nat} {v:Value} (hv:((L i).map (Lf.den idE))[e]?=some v):∀ n,(∀ j,j<n→(L j).length=sz)→i<n→(rwCs L n)[i*sz+e]?=some v
 | 0,_,h=>absurd h (Nat.not_lt_zero i)
 | n+1,hs,h=>by
  have he:e<(L i).length:=by have:=(List.getElem?_eq_some_iff.1 hv).1; rwa [List.length_map] at this
  have hl:(rwCs L n).length=n*sz:=rwCs_len n fun j hj=>hs j (by omega)
  rw [rwCs_succ]
  rcases Nat.lt_succ_iff_lt_or_eq.1 h with h1 | rfl
  · have:i*sz+sz≤n*sz:=by rw [← Nat.succ_mul]; exact Nat.mul_le_mul_right _ h1
    rw [List.getElem?_append_left (by rw [hl]; have:=hs i (by omega); omega)]
    exact rwCs_get hv n (fun j hj=>hs j (by omega)) h1
  · rw [List.getElem?_append_right (by rw [hl]; omega),hl,show i*sz+e-i*sz=e by omega]
    exact hv
theorem rwCs_at {sz:Nat} {L:Nat→List Lf} {k:Nat} {v:Value}:∀ n,(∀ j,j<n→(L j).length=sz)→(rwCs L n)[k]?=some v→∃ i e,i<n∧k=i*sz+e∧((L i).map (Lf.den idE))[e]?=some v
 | 0,_,h=>by simp [rwCs] at h
 | n+1,hs,h=>by
  have hl:(rwCs L n).length=n*sz:=rwCs_len n fun j hj=>hs j (by omega)
  rw [rwCs_succ] at h
  by_cases hk:k<n*sz
  · rw [List.getElem?_append_left (by omega)] at h
    obtain ⟨i,e,h1,h2,h3⟩:=rwCs_at n (fun j hj=>hs j (by omega)) h
    exact ⟨i,e,by omega,h2,h3⟩
  · rw [List.getElem?_append_right (by omega),hl] at h
    exact ⟨n,k-n*sz,by omega,by omega,h⟩
theorem rwCs_add (L:Nat→List Lf) (n:Nat):∀ m,rwCs L (n+m)=rwCs L n++rwCs (fun j=>L (n+j)) m
 | 0=>by simp [rwCs]
 | m+1=>by rw [← Nat.add_assoc,rwCs_succ,rwCs_succ,rwCs_add L n m,List.append_assoc]
def OrD (sz:Nat) (e:TypeId) (n:Nat) (L:Nat→List Lf) (w:World) (g:Pl):Prop :=
 (∀ c,g.F c↔c=g.b)∧(∀ m,g.v m=some ⟨g.b,m,none⟩)∧(0<n∧∀ j,j<n→(L j).length=sz)∧w.ownsRow 0 e sz (.slice (some ⟨g.b,0,none⟩) n (g.c 0)) n (rwCs L n)
theorem OrD.cells {sz:Nat} {e:TypeId} {n:Nat} {L:Nat→List Lf} {w:World} {g:Pl} (h:OrD sz e n L w g):∃ cur,w.heap[g.b]?=some (.cells cur e (0,0))∧n≤g.c 0∧g.c 0≤maxLen∧cur.size=g.c 0*sz∧cur.toList.take (n*sz)=rwCs L n:=by
 rcases h.2.2.2.2 with ⟨e1,_⟩ | ⟨g',cap,cur,e1,_,hh,h1,h2,h3,h4⟩
 · cases e1
 · injection e1 with e1 e2 e3
   injection e1 with e1
   injection e1 with e1
   subst e1 e3
   exact ⟨cur,hh,h1,h2,h3,h4⟩
theorem OrD.heap {sz:Nat} {e:TypeId} {n:Nat} {L:Nat→List Lf} {w w':World} {g:Pl} (h:OrD sz e n L w g) (k:w'.heap[g.b]?=w.heap[g.b]?):OrD sz e n L w' g:=by
 obtain ⟨cur,hh,h1,h2,h3,h4⟩:=h.cells
 exact ⟨h.1,h.2.1,h.2.2.1,h.2.2.2.1,.inr ⟨g.b,g.c 0,cur,rfl,Nat.zero_le _,by rw [k]; exact hh,h1,h2,h3,h4⟩⟩
theorem lr_stable (sz:Nat) (e:TypeId) (n:Nat) (L:Nat→List Lf):Stable (OrD sz e n L) :=
 ⟨fun w g h c hc=>by rw [(h.1 c).1 hc]; obtain ⟨cur,hh,_⟩:=h.cells; exact qZ6 hh,
  fun w w' g h k=>h.heap (k.block _ (by obtain ⟨cur,hh,_⟩:=h.cells; exact qZ6 hh)),
  fun w w' g b o m s h hs ht hF=>h.heap (ht.block _ (by obtain ⟨cur,hh,_⟩:=h.cells; exact qZ6 hh) fun e=>hF ((h.1 b).2 e.symm))⟩
theorem OrD.rw {sz:Nat} {e:TypeId} {n:Nat} {L:Nat→List Lf} (w:World) (g:Pl) (h:OrD sz e n L w g):RwD sz n L w g:=by
 obtain ⟨cur,hh,h1,h2,h3,h4⟩:=h.cells
 refine .inr ⟨h.2.2.1.1,g.b,0,cur,e,(0,0),fun m=>by rw [h.2.1,Nat.zero_add],h.1,hh,fun j hj i v hv=>?_⟩
 rw [cell_of_row _ _ _ _ _ _ hh,Nat.zero_add]
 have hi:i<(L j).length:=by have:=(List.getElem?_eq_some_iff.1 hv).1; rwa [List.length_map] at this
 have h5:=rwCs_get hv n h.2.2.1.2 hj
 have hlt:j*sz+i<n*sz:=by
  have:j*sz+sz≤n*sz:=by rw [← Nat.succ_mul]; exact Nat.mul_le_mul_right _ hj
  have:=h.2.2.1.2 j hj
  omega
 rw [← h4,List.getElem?_take_of_lt hlt] at h5
 rw [← Array.getElem?_toList]
 exact h5
def orT (sz:Nat) (e:TypeId) (n:Nat) (L:Nat→List Lf):Thing :=
 ⟨OrD sz e n L,lr_stable sz e n L,1,RwD sz n L,lsRw_stable sz n L,OrD.rw,false,fun h=>(Bool.noConfusion h),false,fun h=>(Bool.noConfusion h),false,fun h=>(Bool.noConfusion h),false,fun h=>(Bool.noConfusion h)⟩
def orO (sz:Nat) (e:TypeId) (n:Nat) (L:Nat→List Lf):Ob:=.ow (orT sz e n L) e
inductive OrB (β:Env) (sz:Nat) (e:TypeId) (n0:Nat) (L:Nat→List Lf):Option (Nat × Ob)→Value→Prop where
 | nil (h:n0=0):OrB β sz e n0 L none (.slice none 0 0)
 | row (K:Nat) (h:n0=0):OrB β sz e n0 L (some (K,.row [] e 0 sz)) (.slice (some ⟨(β K).b,0,none⟩) 0 ((β K).c 0))
 | own (K:Nat):OrB β sz e n0 L (some (K,orO sz e n0 L)) (.slice ((β K).v 0) n0 ((β K).c 0))
structure OrL (A:AppT Tryz.prog) (L:Nat→List Lf) (n:Nat):Prop where
 len:∀ j,j<n→(L j).length=A.sz
 one:∀ j,j<n→∀ u∈(L j).map (Lf.den idE),u.oneCell'=true
 max:n≤maxLen
 bytes:n*A.bytes≤140737488355328
theorem or_core (A:AppT Tryz.prog) {L:Nat→List Lf} {n0 m:Nat} (h:OrL A L (n0+m)) (hm:0<m) {β:Env} {w:World} {old:Option (Nat × Ob)} {v:Value} (hold:oldHolds β w old) (hk:OrB β A.sz A.e n0 L old v) (b of cc M:Nat)
  (hnews:∀ i,i<m→w.rangeAt b (of+i*A.sz) ((L (n0+i)).map (Lf.den idE))) (s y:Operand) (ρ:Operand→Value) (o:Oper) (ho:o.op=.call ⟨.builtin .append,#[s,y],#[A.t,A.t]⟩) (h1:ρ s=v) (h2:ρ y=.slice (some ⟨b,of,none⟩) m cc) :
  ∃ (g:Pl) (w':World),(execOp ρ o).run Tryz.prog w=.ok (.value ((SV.one (.c (.b (.y M 0 (n0+m))))).den (extE β M [g]))) w'∧(orO A.sz A.e (n0+m) L).holds (extE β M [g]) w' g∧Grow β w w' old g∧(∀ c,g.F c→c=g.b):=by
 have hnl:(rwCs (fun j=>L (n0+j)) m).length=m*A.sz:=rwCs_len m fun j hj=>h.len _ (by omega)
 have hnc:∀ j u,(rwCs (fun j=>L (n0+j)) m)[j]?=some u→w.cell? ((⟨b,of,none⟩:Addr).add j)=some u:=fun j u hu=>by
  obtain ⟨i,e,h3,h4,h5⟩:=rwCs_at m (fun j hj=>h.len (n0+j) (by omega)) hu
  have:=hnews i h3 e u h5
  rw [Addr.add_mid,h4,← Nat.add_assoc]
  exact this
 have hone:∀ u∈rwCs (fun j=>L (n0+j)) m,u.oneCell'=true:=fun u hu=>by
  obtain ⟨j,hj,hu⟩:=List.mem_flatMap.1 hu
  exact h.one _ (by have:=List.mem_range.1 hj; omega) u hu
 obtain ⟨ol,hol,hol2⟩:∃ ol:Option (Nat × Nat),((ol=none∧n0=0∧rwCs L n0=[]∧v=.slice none 0 0)∨∃ b c,ol=some (b,c)∧v=.slice (some ⟨b,0,none⟩) n0 c∧w.ownsRow 0 A.e A.sz v n0 (rwCs L n0)) ∧
   ∀ g c,ol=some (g,c)→∃ p,old=some p∧g=(β p.1).b:=by
  cases hk with
  | nil h0=>subst h0; exact ⟨none,.inl ⟨rfl,rfl,rfl,rfl⟩,fun g c e=>by cases e⟩
  | row K h0 =>
   subst h0
   obtain ⟨ho1,cur,hc1,hc2,hc3,hc4,hc5,hc6⟩:(Ob.row [] A.e 0 A.sz).holds β w (β K):=hold
   exact ⟨some ((β K).b,(β K).c 0),.inr ⟨_,_,rfl,rfl,by simp [rwCs],.inr ⟨_,_,cur,rfl,Nat.zero_le _,hc1,hc3,hc4,hc5,by simp [rwCs]⟩⟩,fun g c e=>by
    injection e with e
    injection e with e1 e2
    exact ⟨_,rfl,e1.symm⟩⟩
  | own K =>
   obtain ⟨_,hd⟩:(orO A.sz A.e n0 L).holds β w (β K):=hold
   have hd:OrD A.sz A.e n0 L w (β K):=hd
   have hv:=hd.2.1 0
   exact ⟨some ((β K).b,(β K).c 0),.inr ⟨_,_,rfl,by rw [hv],by rw [hv]; exact hd.2.2.2⟩,fun g c e=>by
    injection e with e
    injection e with e1 e2
    exact ⟨_,rfl,e1.symm⟩⟩
 obtain ⟨g,cap,w',hr,hown,hgr⟩:=app_core A w o.type ol v hol ⟨b,of,none⟩ cc hnl hnc hone hm h.max h.bytes
 rw [← rwCs_add] at hown
 obtain ⟨cur,hcur⟩:∃ cur,w'.heap[g]?=some (.cells cur A.e (0,0)):=by
  rcases hown.2 with ⟨e1,_⟩ | ⟨g',cap,cur,e1,_,hh,_⟩
  · cases e1
  · injection e1 with e1 e2 e3
    injection e1 with e1
    injection e1 with e1
    subst e1
    exact ⟨cur,hh⟩
 refine ⟨⟨g,fun m=>some ⟨g,m,none⟩,fun _=>cap,fun c=>c=g,fun _=>undef⟩,w',?_,⟨⟨rfl,A.he,_,hcur⟩,fun c=>Iff.rfl,fun m=>rfl,⟨by omega,h.len⟩,hown⟩,?_,fun c hc=>hc⟩
 · have e:(SV.one (.c (.b (.y M 0 (n0+m))))).den (extE β M [(⟨g,fun m=>some ⟨g,m,none⟩,fun _=>cap,fun c=>c=g,fun _=>undef⟩:Pl)])=.slice (some ⟨g,0,none⟩) (n0+m) cap:=by
    have:=qX7 (β:=β) (n:=M) (xs:=[(⟨g,fun m=>some ⟨g,m,none⟩,fun _=>cap,fun c=>c=g,fun _=>undef⟩:Pl)]) (i:=0) rfl
    simp only [Nat.add_zero] at this
    simp only [SV.den,SC.den,Lf.den,Lf0.den,this]
   rw [e]
   exact zY8 s y A.t ho h1 h2 hr
 · rcases hgr with ⟨k1,k2⟩ | ⟨c,k1,N,k2,k3⟩
   · exact .inl ⟨k1,k2⟩
   · obtain ⟨p,p1,p2⟩:=hol2 g c k1
     exact .inr ⟨p,p1,p2,N,k2,k3⟩
def isApT (t:TypeId) (o:Oper):Bool:=match o.op,o.dst with
 | .call ⟨.builtin .append,#[_,_],#[u,u']⟩,some _=>Nat.beq u t&&Nat.beq u' t
 | _,_=>false
def lsKOf:SV→Nat
 | .one (.c (.b (.y k _ _)))=>k
 | .one (.c (.b (.r k _)))=>k
 | .one (.c (.b (.s k _ _ _)))=>k
 | _=>0
inductive OrK where
 | nil
 | row
 | own
def OrK.old (k:OrK) (sz:Nat) (e:TypeId) (n0:Nat) (L:Nat→List Lf) (K:Nat):Option (Nat × Ob):=match k with
 | .nil=>none
 | .row=>some (K,.row [] e 0 sz)
 | .own=>some (K,orO sz e n0 L)
def OrK.val (k:OrK) (n0:Nat) (g:Pl):Value:=match k with
 | .nil=>.slice none 0 0
 | .row=>.slice (some ⟨g.b,0,none⟩) 0 (g.c 0)
 | .own=>.slice (g.v 0) n0 (g.c 0)
def OrK.ok (k:OrK) (n0:Nat):Prop:=match k with
 | .nil=>n0=0
 | .row=>n0=0
 | .own=>True
theorem OrK.orB {k:OrK} {n0:Nat} (h:k.ok n0) (β:Env) (sz:Nat) (e:TypeId) (L:Nat→List Lf) (K:Nat):OrB β sz e n0 L (k.old sz e n0 L K) (k.val n0 (β K)):=by
 cases k
 · exact .nil h
 · exact .row K h
 · exact .own K
def eAp1 (A:AppT Tryz.prog) (k:OrK) {n0:Nat} {L:Nat→List Lf} {cs:List Lf} (hk:k.ok n0) (h:OrL A L (n0+1)) (hL:L n0=cs) (hc:∀ β,cs.map (Lf.den β)=cs.map (Lf.den idE)):Ev Tryz.prog:=.dynU (fun o _ _=>isApT A.t o) fun o xs ob=>match o.op,o.dst with
 | .call ⟨.builtin .append,#[s,y],_⟩,some d=>lit (lsKOf (xs.getD 0 qK7)) fun K=>lit (lsKOf (xs.getD 1 qK7)) fun a=>lit ob.length fun M =>
   .upd (some d) (.call ⟨.builtin .append,#[s,y],#[A.t,A.t]⟩) (fun β=>[k.val n0 (β K),.slice (some ⟨(β a).b,0,none⟩) 1 1]) [(a,.box cs A.e)] (k.old A.sz A.e n0 L K) M (orO A.sz A.e (n0+1) L) (.one (.c (.b (.y M 0 (n0+1))))) (fun β w hh hold ρ o ho hx=>by
    have h3:ρ s=k.val n0 (β K)∧ρ y=.slice (some ⟨(β a).b,0,none⟩) 1 1:=by simpa [Op.operands,Call.operands] using hx
    have hd:(Ob.box cs A.e).holds β w (β a):=hh (a,.box cs A.e) (List.mem_singleton.2 rfl)
    obtain ⟨g,w',r1,r2,r3,r4⟩:=or_core A h (Nat.zero_lt_one) hold (OrK.orB hk β A.sz A.e L K) (β a).b 0 1 M (fun i hi=>by
     obtain rfl:i=0:=by omega
     rw [Nat.add_zero,hL,← hc β]
     intro j v hv
     rw [cell_of_row _ _ _ _ _ _ hd.2,Nat.zero_mul]
     simpa using hv) s y ρ o ho h3.1 h3.2
    exact ⟨g,w',r1,r2,r3,fun c hc=>.inl (r4 c hc)⟩)
 | _,_=>.cut
theorem said_0 {P:Program} {fn:Func} {m0:Nat} {res res':SV} {β:Env} {w:World} {e:Ending} {w':World} (h:Said P fn m0 res [] β w e w') (hr:∀ β':Env,(∀ k,k<m0→β' k=β k)→res.den β'=res'.den β):∃ xs:List Pl,qK2 β w m0 xs∧e=.returned (res'.den (extE β m0 xs))∧qZ0 w' [] xs∧Below w.heap.size w w':=by
 obtain ⟨β',q,obj,hb,rfl,_,_,_,g⟩:=h
 exact ⟨[],(fun _ h=>by cases h),by rw [hr β' hb,extE_nil],trivial,g.bel⟩
theorem zX8 {m0 N B0:Nat} {w0:World} {β0:Env} {Q:Exit→Act→World→Prop} {u:Nat} {sl:List (Nat × SV)} {ob:List Ob} {ev ev':List (Ev Tryz.prog)} {p:Code × List Kf} (h:HdOk Tryz.prog m0 N B0 w0 β0 Q (mkC Tryz.prog N u sl ob ev) p):HdOk Tryz.prog m0 N B0 w0 β0 Q (mkC Tryz.prog N u sl ob ev') p :=
 fun β a w hβ hs=>h β a w hβ (hs.ev ev)
def PwFit (X:MQ) (k:Nat):Prop:=∀ j,1≤j→j≤k→FitM (mpw X j)
abbrev KW:Nat:=10000
noncomputable abbrev mpF:Func:=Tryz.f27
abbrev mpAr (q:MQ) (n:Int):List SV:=[.one (.a (mCl q)),.one (nI' n)]
abbrev MTX:TypeId:=185
abbrev mob0L:List Lf:=lsX g0C++lsX g0C++lsX g0C++lsX g0C++[.b (.v (.bool false))]
abbrev mAl (k:Nat) (m:MQ):List Lf:=[.b (.z k 0),.b (.z (k+1) 0),.b (.z (k+2) 0),.b (.z (k+3) 0),.b (.z (k+4) 0),.b (.z (k+5) 0),.b (.z (k+6) 0),.b (.z (k+7) 0),.b (.v (.bool m.t))]
theorem fit_mid:FitM (mid false):=⟨fit10,fit00,fit00,fit10⟩
theorem pw_fit {X:MQ} {k:Nat} (h:PwFit X k):FitM (mpw X k):=by
 cases k with
 | zero=>exact fit_mid
 | succ k=>exact h (k+1) (by omega) (Nat.le_refl _)
section
variable (q:MQ) (n:Int) (X:MQ) (k:Nat)
noncomputable abbrev mpN (q:MQ) (n:Int):Nat:=qV4 mpF (mpAr q n)
abbrev mpSl (k j:Nat):List (Nat × SV):=[(4,.one (.c (.b (.p 1 0)))),(6,.one (.c (.b (.p 2 0)))),(8,.one (.c (.b (.p 3 0)))),(34,.one (nI' (k:Int))),(35,.one (nI' (j:Int)))]
abbrev mpO (X Y:MQ):List Ob:=[.dead,.box mob0L MOB,.box (mAl 4 X) MTX,.box (mAl 12 Y) MTX]++(mM X).map Thing.ob++(mM Y).map Thing.ob
noncomputable abbrev mpC (j:Nat) (ev:List (Ev Tryz.prog)):Cf Tryz.prog:=mkC Tryz.prog (mpN q n) 0 (mpSl k j) (mpO X (mpw X j)) ev
abbrev mpRY (m:MQ):SV:=.tup [.a (mCl m),nI' 0]
abbrev mpRN (c:Int):SV:=.tup [mob0,nI' c]
noncomputable abbrev mpH (r:SV) (w:World) (c:Cf Tryz.prog):Prop:=HdOk Tryz.prog 0 (mpN q n) w.heap.size w idE (bodyPost Tryz.prog mpF (Said Tryz.prog mpF 0 r [] idE w)) c (lpAt mpF 0)
end
section
variable {q:MQ} {n:Int} {X:MQ} {k:Nat} (hX:MSz KW X) (hr:Reg X) (r:SV) (w:World) {j:Nat} (hf:PwFit X j)
include hX hr hf
theorem mp_sz:MSz KM (mpw X (j+1)):=(mcmp_sz hX (qX3 (pw_fit hf)) (hr.beh (mpw_reg hr j))).mono (by decide)
omit hX hr in
theorem mp_y:MSz KE (mpw X j):=(qX3 (pw_fit hf)).mono (by decide)
noncomputable def mpBeh:Spec Tryz.prog:=sBehR (hX.mono (by decide)) (mp_y hf) (hr.beh (mpw_reg hr j))
noncomputable def mpTY (hF:FitM (mpw X (j+1))):Spec Tryz.prog:=(sToldN (mp_sz hX hr hf) (mpw_nrm hr (j+1))).conv (mpRY (mpw X (j+1))) (by
 show SV.tup [.a (lsX (maC (mpw X (j+1)))),.c (.b (.v (.int .i64 (maK (mpw X (j+1))))))]=_
 rw [(ma_fit hF).1,(ma_fit hF).2])
noncomputable def mpTN (hF:¬ FitM (mpw X (j+1))):Spec Tryz.prog:=(sToldN (mp_sz hX hr hf) (mpw_nrm hr (j+1))).conv (mpRN 4) (by
 show SV.tup [.a (lsX (maC (mpw X (j+1)))),.c (.b (.v (.int .i64 (maK (mpw X (j+1))))))]=_
 rw [(zH7 hF).1,(zH7 hF).2]
 rfl)
end
section
variable (q:MQ) (n:Int) (X:MQ) (k:Nat) (hX:MSz KW X) (hr:Reg X) (r:SV) (w:World) {j:Nat} (hf:PwFit X j)
theorem mp_step (hj:j<k) (hF:FitM (mpw X (j+1))) {j2:Int} (hj2:IntKind.i64.wrap ((j:Int)+1)=j2) (e2:j2=((j+1:Nat):Int)) (kk:mpH q n r w (mpC q n X k (j+1) [])) :
  mpH q n r w (mpC q n X k j [.eqv 36 (.bool (decide ((j:Int)<(k:Int)))) (.bool true) (by rw [decide_eq_true (by omega)]),(mpBeh hX hr hf).e,(mpTY hX hr hf hF).e,.eqv 49 (.int .i64 (IntKind.i64.wrap ((j:Int)+1))) (.int .i64 ((j+1:Nat):Int)) (by rw [hj2,e2]),.cut]) :=
 qQ7 (Ns:=[]) (m:=800) [] [0,1,2,3,4,5,6,7,8,9,10,11,20,21,22,23,24,25,26,27] hmA (by kernel_rfl) (fun β=>qQ0 (by kernel_rfl)) kk
theorem mp_bad (hj:j<k) (hF:¬ FitM (mpw X (j+1))) :
  mpH q n (mpRN 4) w (mpC q n X k j [.eqv 36 (.bool (decide ((j:Int)<(k:Int)))) (.bool true) (by rw [decide_eq_true (by omega)]),(mpBeh hX hr hf).e,(mpTN hX hr hf hF).e]) :=
 qJ9 (Ns:=[]) (m:=800) hmA (fun β=>qQ0 (by kernel_rfl))
noncomputable def mpTE {X:MQ} {k:Nat} (hr:Reg X) (hf:PwFit X k):Spec Tryz.prog:=(sToldN ((qX3 (pw_fit hf)).mono (by decide)) (mpw_nrm hr k)).conv (mpRY (mpw X k)) (by
 show SV.tup [.a (lsX (maC (mpw X k))),.c (.b (.v (.int .i64 (maK (mpw X k)))))]=_
 rw [(ma_fit (pw_fit hf)).1,(ma_fit (pw_fit hf)).2])
theorem mp_end (hf:PwFit X k):mpH q n (mpRY (mpw X k)) w (mpC q n X k k [.eqv 36 (.bool (decide ((k:Int)<(k:Int)))) (.bool false) (by rw [decide_eq_false (by omega)]),(mpTE hr hf).e]) :=
 qJ9 (Ns:=[]) (m:=800) hmA (fun β=>qQ0 (by kernel_rfl))
include hX hr in
theorem mp_runY (hk:k≤256) (hf:PwFit X k):∀ d j,j+d=k→mpH q n (mpRY (mpw X k)) w (mpC q n X k j [])
 | 0,j,e=>by
  obtain rfl:j=k:=by omega
  exact zX8 (mp_end q n X j hr w hf)
 | d+1,j,e=>zX8 (mp_step q n X k hX hr _ w (fun i h1 h2=>hf i h1 (by omega)) (by omega) (hf (j+1) (by omega) (by omega)) (by rw [IntKind.wrap_i64]; omega) rfl (mp_runY hk hf d (j+1) (by omega)))
include hX hr in
theorem mp_runN (hk:k≤256) {i:Nat} (hi:i<k) (hf:PwFit X i) (hF:¬ FitM (mpw X (i+1))):∀ d j,j+d=i→mpH q n (mpRN 4) w (mpC q n X k j [])
 | 0,j,e=>by
  obtain rfl:j=i:=by omega
  exact zX8 (mp_bad q n X k hX hr w hf hi hF)
 | d+1,j,e=>zX8 (mp_step q n X k hX hr _ w (fun i h1 h2=>hf i h1 (by omega)) (by omega) (hf (j+1) (by omega) (by omega)) (by rw [IntKind.wrap_i64]; omega) rfl (mp_runN hk hi hf hF d (j+1) (by omega)))
end
section
variable {q:MQ} (h:MayQ q) (n:Int) (r:SV) (w:World)
noncomputable def mpE0 (hn:n.natAbs≤256):List (Ev Tryz.prog):=[(zQ6 h).e,.eqv 20 (.bool (decide (n < -256))) (.bool false) (by rw [decide_eq_false (by omega)]),.eqv 24 (.bool (decide (256<n))) (.bool false) (by rw [decide_eq_false (by omega)])]
include h in
theorem mp_stP (hn:n.natAbs≤256) (h0:0≤n) (kk:mpH q n r w (mpC q n q n.natAbs 0 [])):Calls Tryz.prog 27 ((mpAr q n).map (SV.den idE)).toArray w (Said Tryz.prog mpF 0 r [] idE w) :=
 sx_cut (P:=Tryz.prog) (mpAr q n) [] (mpE0 h n hn++[.eqv 28 (.bool (decide (n<0))) (.bool false) (by rw [decide_eq_false (by omega)]),sStill.e,.eqv 34 (.int .i64 n) (.int .i64 (n.natAbs:Int)) (by rw [show (n.natAbs:Int)=n by omega]),.cut]) [] [] 800 r [] Tryz.func27 hmA (u:=0) (sl:=mpSl n.natAbs 0) (ob:=mpO q (mpw q 0)) (σ:=[0,1,10,19,2,3,4,5,6,7,8,9,11,12,13,14,15,16,17,18]) (p':=lpAt mpF 0) (by kernel_rfl) (fun β=>qQ0 (by kernel_rfl)) (by kernel_rfl) (by kernel_rfl) idE w (fun i o ho=>by simp at ho) kk
include h in
theorem mp_stN (hn:n.natAbs≤256) (h0:n<0) (kk:mpH q n r w (mpC q n (minv q) n.natAbs 0 [])):Calls Tryz.prog 27 ((mpAr q n).map (SV.den idE)).toArray w (Said Tryz.prog mpF 0 r [] idE w) :=
 sx_cut (P:=Tryz.prog) (mpAr q n) [] (mpE0 h n hn++[.eqv 28 (.bool (decide (n<0))) (.bool true) (by rw [decide_eq_true h0]),(sUndoR ((qX3 h.1).mono (by decide)) h.reg).e,.eqv 32 (.int .i64 (IntKind.i64.wrap (0-n))) (.int .i64 (n.natAbs:Int)) (by rw [IntKind.wrap_i64]; congr 1; omega),sStill.e,.cut]) [] [] 800 r [] Tryz.func27 hmA (u:=0) (sl:=mpSl n.natAbs 0) (ob:=mpO (minv q) (mpw (minv q) 0)) (σ:=[0,1,10,27,11,12,13,14,15,16,17,18,19,20,21,22,23,24,25,26]) (p':=lpAt mpF 0) (by kernel_rfl) (fun β=>qQ0 (by kernel_rfl)) (by kernel_rfl) (by kernel_rfl) idE w (fun i o ho=>by simp at ho) kk
end
def pwB (q:MQ) (n:Int):MQ:=if 0≤n then q else minv q
section
variable {q:MQ} (h:MayQ q) {n:Int} (hn:n.natAbs≤256)
include h in
theorem pwB_ok:MSz KW (pwB q n)∧Reg (pwB q n):=by
 unfold pwB
 split
 · exact ⟨(qX3 h.1).mono (by decide),h.reg⟩
 · exact ⟨(minv_sz (qX3 h.1) (minv_reg h.reg)).mono (by decide),(minv_reg h.reg).mnorm⟩
include h hn in
theorem mp_start (r:SV) (w:World) (kk:mpH q n r w (mpC q n (pwB q n) n.natAbs 0 [])):Calls Tryz.prog 27 ((mpAr q n).map (SV.den idE)).toArray w (Said Tryz.prog mpF 0 r [] idE w):=by
 unfold pwB at kk
 split at kk
 · rename_i h0
   exact mp_stP h n r w hn h0 kk
 · rename_i h0
   exact mp_stN h n r w hn (by omega) kk
theorem mpAr_c (q:MQ) (n:Int) (β:Env):((mpAr q n).map (SV.den β)).toArray=((mpAr q n).map (SV.den idE)).toArray:=rfl
noncomputable def sPwY (hf:PwFit (pwB q n) n.natAbs):Spec Tryz.prog :=
 ⟨27,Tryz.call27,mpAr q n,[],mpRY (mpw (pwB q n) n.natAbs),[],fun β w hh=>by
  rw [mpAr_c q n β]
  refine (mp_start h hn _ w (mp_runY q n (pwB q n) n.natAbs (pwB_ok h).1 (pwB_ok h).2 w hn hf n.natAbs 0 (by omega))).mono fun e w' k=>?_
  obtain ⟨β',q',obj,_,rfl,_,_,_,g⟩:=k
  exact ⟨[],(fun x hx=>by cases hx),rfl,trivial,g.bel⟩,by kernel_rfl⟩
noncomputable def sPwN {i:Nat} (hi:i<n.natAbs) (hf:PwFit (pwB q n) i) (hF:¬ FitM (mpw (pwB q n) (i+1))):Spec Tryz.prog :=
 ⟨27,Tryz.call27,mpAr q n,[],mpRN 4,[],fun β w hh=>by
  rw [mpAr_c q n β]
  refine (mp_start h hn _ w (mp_runN q n (pwB q n) n.natAbs (pwB_ok h).1 (pwB_ok h).2 w hn hi hf hF i 0 (by omega))).mono fun e w' k=>?_
  obtain ⟨β',q',obj,_,rfl,_,_,_,g⟩:=k
  exact ⟨[],(fun x hx=>by cases hx),rfl,trivial,g.bel⟩,by kernel_rfl⟩
end
open Classical in
theorem pw_cases (X:MQ):∀ k,PwFit X k∨∃ i,i<k∧PwFit X i∧¬ FitM (mpw X (i+1))
 | 0=>.inl fun j h1 h2=>by omega
 | k+1=>by
  rcases pw_cases X k with h | ⟨i,h1,h2,h3⟩
  · by_cases hF:FitM (mpw X (k+1))
    · refine .inl fun j h1 h2=>?_
      rcases Nat.lt_succ_iff_lt_or_eq.1 (Nat.lt_succ_of_le h2) with h3 | rfl
      · exact h j h1 (by omega)
      · exact hF
    · exact .inr ⟨k,Nat.lt_succ_self k,h,hF⟩
  · exact .inr ⟨i,by omega,h2,h3⟩
end Go.Proofs.YtbepimnlleilfaaGreat.Y
end
