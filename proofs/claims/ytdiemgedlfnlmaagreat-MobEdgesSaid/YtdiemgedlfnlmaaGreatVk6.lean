/- SyQ, Bwd, BigA, BigE. -/
import Derived.RangeFuncBox
import Derived.RangeFuncLeaves
import Derived.Shelf.Abstract
import Derived.WalkKit
import Derived.OwnWalkIn
import Derived.TacticsInMore
import Derived.LoopNIn
import Derived.LoopIn
import Derived.Deep.MidRow
import Derived.Test.YtdiemgedlfnlmaaGreatProg
import Derived.BigQuiet
import Derived.Deep.QuietTactic
import Derived.WalkSpells
import Derived.WalkLawsBesides
import Derived.Deep.LoopGhost
import Derived.Deep.DeepCutAuto
import Derived.Deep.CutBlock
import Derived.Test.YtdiemgedlfnlmaaGreatVk5
set_option linter.unnecessarySimpa false
set_option linter.unusedVariables false
set_option linter.unusedSimpArgs false
section
namespace Go.Proofs.YtdiemgedlfnlmaaGreat.Y
open Go Go.RowKit
def stS (P:Program) (m0 n:Nat) (Ns:List (Nat × Nat)) (m:Nat) (ps:Array Tmp) (x y:Code) (sl0:List (Nat × SV)):List (List SV)→Cf P→Nat→Option (Cf P)
 | _,f,0=>some f
 | v::r,f,k+1=>match roundS P m0 n Ns m ps x y sl0 v f with
  | some (false,f')=>stS P m0 n Ns m ps x y sl0 r f' k
  | _=>none
 | [],_,_+1=>none
theorem fin_val {P:Program} {fn:Func} {m0 n:Nat} {res:SV} {f:Cf P} (h:∀ β,Eqs.ok (fin1 P fn m0 n res [] f β)):f.good∧∀ {B:Bd} {w0:World} {β:Env} {a:Act} {W:World},Good B m0 w0 f.q (fun k=>f.ob[k]?) β W→(∀ k,f.q k=true↔k<f.ob.length)→SlOk β a f.sl n→m0≤f.ob.length →
  (results fn a.tmps).run P W=.ok (res.den β) W:=by
 have fin:∃ r:R1 Value,run1 P m0 false (results fn (tmpsS idE f.sl n)) f.q f.ob []=some r∧res.of f.q=true∧r.ob.length=f.ob.length ∧
   ∀ β,Eqs.ok (chk P β (results fn (tmpsS β f.sl n)) r.tr.reverse (fun u=>[(.v u,.v (res.den β))])++(needEqs f.q f.ob []++eqsOf β f.cs)):=by
  cases hx:run1 P m0 false (results fn (tmpsS idE f.sl n)) f.q f.ob [] with
  | none=>have:=h idE; unfold fin1 at this; rw [hx] at this; exact (Eqs.no_ok this).elim
  | some r =>
   obtain ⟨ra,rq,rob,rtr⟩:=r
   cases hc:(res.of f.q&&Nat.beq rob.length f.ob.length&&Nat.beq f.ev.length 0) with
   | false=>have:=h idE; unfold fin1 at this; rw [hx] at this; dsimp only at this; rw [hc] at this; exact (Eqs.no_ok this).elim
   | true =>
    have h3:=hc
    simp only [Bool.and_eq_true,Nat.beq_eq] at hc
    refine ⟨_,rfl,hc.1.1,hc.1.2,fun β=>?_⟩
    have:=h β
    unfold fin1 at this
    rw [hx] at this
    dsimp only at this
    rw [h3] at this
    exact this
 obtain ⟨r,f1,f2,f3,f4⟩:=fin
 refine ⟨fun β x hx=>eqsOf_ok (fun p hp=>f4 β p (List.mem_append.2 (.inr (List.mem_append.2 (.inr hp))))) x hx,?_⟩
 intro B w0 β a W g hq sl hm0
 obtain ⟨h5,_,_,tr,h8,h9⟩:=run1_ok _ _ _ _ _ f1 (fun k hk=>(hq k).1 hk)
 obtain ⟨k1,obj',k2,k3,k4⟩:=h9 _ _ _ _ _ _ g (fun k hk=>⟨hk,rfl⟩) (fun k a b=>by omega) hm0
 have h6:=f4 β
 rw [h8,List.append_nil,List.reverse_reverse] at h6
 have h7:Eqs.ok (chk P β (results fn (tmpsS β f.sl n)) tr (fun u=>[(.v u,.v (res.den β))])):=fun p hp=>h6 p (List.mem_append.2 (.inl hp))
 obtain ⟨v,hv,hv2⟩:=chk_run _ _ _ h7 k1
 obtain ⟨e1,_⟩:=Eqs.cons_ok hv2
 injection e1 with e1
 subst e1
 have hend:trEnd β W tr=W:=by
  obtain ⟨tr2,x1,x2⟩:=run1_still _ _ _ _ _ f1 (fun k hk=>(hq k).1 hk) f3
  rw [h8,List.append_nil,List.append_nil] at x1
  rw [List.reverse_inj.1 x1]
  exact x2 β W
 rw [hend] at hv
 rw [tmps_eq sl]
 exact hv
section
variable {P:Program} {fn:Func} {m0 n:Nat} {Ns:List (Nat × Nat)} {m:Nat} {res:SV} {need:List (Nat × Ob)} {ps:Array Tmp} {x y:Code} {ks:List Kf} {sl0:List (Nat × SV)} (hm:P.follows .mixedOrders=true)
include hm
theorem range_st:∀ (vs:List (List SV)) (f:Cf P),(∀ β,Eqs.ok (rangeE P fn m0 n Ns m res need ps x y ks sl0 vs f β))→f.full→f.sl=sl0 →
  f.good∧∀ k fk,stS P m0 n Ns m ps x y sl0 vs f k=some fk→(fk.full∧fk.sl=sl0∧fk.ob.all obClB=true∧∀ β:Env,Eqs.ok (needEqs fk.q fk.ob need)) ∧
   (k<vs.length→∃ b f',roundS P m0 n Ns m ps x y sl0 (vs.getD k []) fk=some (b,f')∧f'.good∧(b=false→stS P m0 n Ns m ps x y sl0 vs f (k+1)=some f')∧(b=true→f'.ob.all obClB=true∧∀ β,Eqs.ok (fin1 P fn m0 n res [] f' β))) ∧
   (k=vs.length→∃ b fB,runI P m0 n Ns m none ks fk=some (.ended b fB)∧fB.ob.all obClB=true∧∀ β,Eqs.ok (fin1 P fn m0 n res [] fB β))
 | [],f,h,hf,hsl=>by
  have h0:∀ β,_:=fun β=>h β
  have hcl:=bif_ok (Eqs.left (h0 idE))
  have hnd:∀ β:Env,Eqs.ok (needEqs f.q f.ob need):=fun β=>Eqs.left (Eqs.right (h0 β))
  cases hr:runI P m0 n Ns m none ks f with
  | none=>have:=Eqs.right (Eqs.right (h0 idE)); rw [hr] at this; exact (Eqs.no_ok this).elim
  | some s =>
   have h1:∀ β,_:=fun β=>Eqs.right (Eqs.right (h0 β))
   rw [hr] at h1
   cases s with
   | range g ps2 x2 y2 ks2 f2=>exact (Eqs.no_ok (h1 idE)).elim
   | ended b fB =>
    have hclB:=bif_ok (Eqs.left (h1 idE))
    have hfin:∀ β,Eqs.ok (fin1 P fn m0 n res [] fB β):=fun β=>Eqs.right (h1 β)
    have hgB:=(fin_val hfin).1
    obtain ⟨i1,i2,i3⟩:=runI_ok (l:=none) (nn:=0) hm _ _ _ _ _ hr hf
    refine ⟨fun β z hz=>hgB β z (i1 z hz),fun k fk hk=>?_⟩
    cases k with
    | succ k=>cases hk
    | zero =>
     obtain rfl:=Option.some.inj hk
     exact ⟨⟨hf,hsl,hcl,hnd⟩,fun h=>by simp at h,fun _=>⟨b,fB,hr,hclB,hfin⟩⟩
 | v::r,f,h,hf,hsl=>by
  have h0:∀ β,_:=fun β=>h β
  have hcl:=bif_ok (Eqs.left (h0 idE))
  have hnd:∀ β:Env,Eqs.ok (needEqs f.q f.ob need):=fun β=>Eqs.left (Eqs.right (h0 β))
  have h1:∀ β,_:=fun β=>Eqs.right (Eqs.right (h0 β))
  cases hr:roundS P m0 n Ns m ps x y sl0 v f with
  | none=>rw [hr] at h1; exact (Eqs.no_ok (h1 idE)).elim
  | some s =>
   obtain ⟨b,f'⟩:=s
   rw [hr] at h1
   obtain ⟨i1,i2,i3,_⟩:=roundS_ok (nn:=0) (l:=0) hm hr hf hsl
   cases b with
   | true =>
    have hcl':=bif_ok (Eqs.left (h1 idE))
    have hfin:∀ β,Eqs.ok (fin1 P fn m0 n res [] f' β):=fun β=>Eqs.right (h1 β)
    have hg':=(fin_val hfin).1
    refine ⟨fun β z hz=>hg' β z (i1 z hz),fun k fk hk=>?_⟩
    cases k with
    | succ k=>unfold stS at hk; rw [hr] at hk; cases hk
    | zero =>
     obtain rfl:f=fk:=by unfold stS at hk; exact Option.some.inj hk
     exact ⟨⟨hf,hsl,hcl,hnd⟩,fun _=>⟨true,f',hr,hg',(fun h=>by cases h),fun _=>⟨hcl',hfin⟩⟩,fun h=>by simp at h⟩
   | false =>
    obtain ⟨hg',hs⟩:=range_st r f' h1 i2 i3
    refine ⟨fun β z hz=>hg' β z (i1 z hz),fun k fk hk=>?_⟩
    cases k with
    | zero =>
     obtain rfl:f=fk:=by unfold stS at hk; exact Option.some.inj hk
     refine ⟨⟨hf,hsl,hcl,hnd⟩,fun _=>⟨false,f',hr,hg',fun _=>?_,fun h=>by cases h⟩,fun h=>by simp at h⟩
     show (match roundS P m0 n Ns m ps x y sl0 v f with | some (false,f')=>stS P m0 n Ns m ps x y sl0 r f' 0 | _=>none)=_
     rw [hr]
     cases r<;>rfl
    | succ k =>
     have hk2:stS P m0 n Ns m ps x y sl0 r f' k=some fk:=by
      have:(match roundS P m0 n Ns m ps x y sl0 v f with | some (false,f')=>stS P m0 n Ns m ps x y sl0 r f' k | _=>none)=some fk:=hk
      rw [hr] at this
      exact this
     obtain ⟨a1,a2,a3⟩:=hs k fk hk2
     refine ⟨a1,fun hlt=>?_,fun he=>a3 (by simpa using he)⟩
     obtain ⟨b,g,c1,c2,c3,c4⟩:=a2 (by simpa using hlt)
     refine ⟨b,g,by simpa using c1,c2,fun hb=>?_,c4⟩
     show (match roundS P m0 n Ns m ps x y sl0 v f with | some (false,f')=>stS P m0 n Ns m ps x y sl0 r f' (k+1) | _=>none)=_
     rw [hr]
     exact c3 hb
end
theorem leave_ok {P:Program} {fn:Func} {m0 n nn:Nat} {res:SV} {f f0:Cf P} {w w1 W:World} {β0 β:Env} {a:Act} {D:Nat} (g1:Good (bd0 w.heap.size m0) m0 w f0.q (fun k=>f0.ob[k]?) β0 w1) (hcl:f.ob.all obClB=true) (hfin:∀ β,Eqs.ok (fin1 P fn m0 n res [] f β))
  (g:Good (bdR f0.ob.length w1 m0 f0.q (fun k=>f0.ob[k]?) β0 []) m0 w1 f.q (fun k=>f.ob[k]?) β W) (hq:∀ k,f.q k=true↔k<f.ob.length) (sl:SlOk β a f.sl n) (hm0:m0≤f.ob.length) (hβ:∀ i,i<m0→β i=β0 i)
  (hd:a.defers=[{ target:=.collected D,args:=#[] }]) (hD:w1.heap.size≤D) (hK:W.heap[D]?=some (.deferred (some []))) {R:Ending→World→Prop} (hR:∀ w',Below w.heap.size w w'→R (.returned (res.den β)) w') :
  LeavesInM Fence.wide nn P fn a.tmps R a.defers .returning W:=by
 rw [hd]
 refine ⟨by simp,.inl ⟨_,_,rfl,run_takeDeferred hK,?_⟩⟩
 have g3:=g.grown (all_cl hcl) (grownBy_putObj' W D (.deferred none)) fun r e=>by cases e; exact ⟨hD,_,hK,rfl⟩
 have hv:=(fin_val hfin).2 g3 hq sl hm0
 exact ⟨_,hv,hR _ (Good.back g1 g3 hβ).bel.below⟩
theorem sx_range {P:Program} {f:FuncId} {fn:Func} (args:List SV) (obs:List Ob) (evs:List (Ev P)) (Ns:List (Nat × Nat)) (m:Nat) (res:SV) (need:List (Nat × Ob)) (vs:List (List SV)) (gf:Nat) (lb:Env→Array Value) (hf:P.funcs[f]?=some fn) (hm:P.follows .mixedOrders=true)
  (eg:∀ args w,(callFunc gf args).run P w=.ok (.enter gf args) w)
  (hiter:∀ (β:Env) (nn l:Nat) (J:Nat→World→Prop) (Jx:World→Prop) (W:World),(∀ k W,J k W→holdsAll β W need) →
   (∀ k W1,J k W1→k<vs.length→YieldAt Fence.wide (nn-1) P l ((vs.getD k []).map (SV.den β)).toArray W1 fun e W'=>(e=.returned (.bool true)∧J (k+1) W')∨(e=.returned (.bool false)∧Jx W'))→J 0 W →
   CallsIn Fence.wide nn P gf (#[.func (.yield l) #[] #[]]++lb β) W fun e W'=>(∃ v,e=.returned v)∧(J vs.length W'∨Jx W'))
  (hok:∀ β,Eqs.ok (allX P fn args obs evs Ns m res need vs gf lb β))
  (hargs:args.all (SV.of fun k=>Nat.blt k obs.length)=true) (hobs:obs.all (fun x=>x.of (fun k=>Nat.blt k obs.length)&&x.own)=true) (hres:∀ β β',res.den β=res.den β') (β:Env) (w:World) (hh:∀ (k:Nat) (o:Ob),obs[k]?=some o→o.holds β w (β k)) :
  Calls P f (args.map (SV.den β)).toArray w fun e w'=>e=.returned (res.den β)∧Below w.heap.size w w':=by
 have hnal:∀ (k r:Nat) (D:Thing),obs[k]?≠some (.al r D):=fun k r D ho=>by
  have:=List.all_eq_true.1 hobs _ (List.mem_of_getElem? ho)
  simp [Ob.own] at this
 have huq:UniqAl obs:=fun k j i D _ h1 _=>absurd h1 (hnal k i D)
 have hlt:∀ k,k<obs.length→∀ c,(β k).F c→c<w.heap.size:=fun k hk c hc=>by
  have h:=hh k _ (List.getElem?_eq_getElem hk)
  cases hx:obs[k] with
  | box cs t=>rw [hx] at h; rw [(h.1.1 c).1 hc]; exact heap_lt h.2
  | th D=>rw [hx] at h; exact D.st.lt _ _ h c hc
  | al r D=>rw [hx] at h; exact D.st.lt _ _ h c hc
  | pl n=>rw [hx] at h; rw [(h.1.1 c).1 hc]; exact h.2.lt
  | row cs t n sz=>rw [hx] at h; rw [(h.1.1 c).1 hc]; exact heap_lt h.2.choose_spec.1
  | ow D t=>rw [hx] at h; exact D.st.lt _ _ h.2 c hc
  | dead =>
   have:=List.all_eq_true.1 hobs _ (List.mem_of_getElem? (List.getElem?_eq_getElem hk))
   rw [hx] at this
   simp [Ob.own] at this
 cases hb:fn.body with
 | none=>have:=hok β; unfold allX at this; rw [hb] at this; exact (Eqs.no_ok this).elim
 | some c =>
  obtain ⟨n,hn⟩:∃ n,n=sizeS fn args:=⟨_,rfl⟩
  unfold allX at hok
  rw [hb] at hok
  dsimp only at hok
  rw [← hn] at hok
  cases hr:runI P obs.length n Ns m (some c) [] ⟨startS args 0,fun k=>Nat.blt k obs.length,obs,evs,[]⟩ with
  | none=>have:=hok β; rw [hr] at this; exact (Eqs.no_ok this).elim
  | some s =>
   rw [hr] at hok
   cases s with
   | ended b f2=>exact (Eqs.no_ok (hok β)).elim
   | range g ps x y ks fA =>
    dsimp only at hok
    have hneed:=bif_ok (Eqs.left (hok idE))
    have hgv:∀ β,evS β fA.sl g=.func (.func gf) #[] (lb β):=fun β=>by
     obtain ⟨e,_⟩:=Eqs.cons_ok (Eqs.right (hok β))
     injection e
    have hE:∀ β,Eqs.ok (rangeE P fn obs.length n Ns m res need ps x y ks fA.sl vs fA β):=fun β=>(Eqs.cons_ok (Eqs.right (hok β))).2
    obtain ⟨i1,i2,i3⟩:=runI_ok (l:=none) (nn:=10) hm _ _ _ _ _ hr ⟨fun k=>by dsimp only; rw [Nat.blt_eq],huq⟩
    obtain ⟨hgA,hS⟩:=range_st hm vs fA hE i2 rfl
    have hLQ:¬ LetsOut (bodyPostM Fence.wide 10 P fn fun e w'=>e=.returned (res.den β)∧Below w.heap.size w w'):=fun ⟨_,w',h⟩=>by
     have h:Ending.outgrown=.returned (res.den β)∧_:=h
     cases h.1
    refine (callsIn_wide (n:=10)).1 (callsIn_of_wp_marks hf hb trivial ?_)
    refine i3 hgA (B0:=bd0 w.heap.size obs.length) (w0:=w) (β:=β) ⟨⟨Keep.refl _ _,Nat.le_refl _,fun k o hk ho=>⟨hh k o ho,(Bool.and_eq_true _ _▸List.all_eq_true.1 hobs o (List.mem_of_getElem? ho)).1⟩,fun k hk=>hlt k (by simpa [Nat.blt_eq] using hk),fun k j hk _ _ hm=>?_,fun k _ hk hm=>?_,fun k hk hm=>?_,fun i hi=>by rw [Nat.blt_eq]; exact hi,fun k r D _ ho=>?_,fun k r D _ ho=>absurd ho (hnal k r D),fun k i _ hi _ hm=>by rw [Nat.blt_eq] at hi; omega⟩,fun k=>by dsimp only; rw [Nat.blt_eq],⟨?_,fun t=>?_⟩,fun t=>?_,⟨Nat.le_refl _,Nat.le_refl _⟩,rfl,huq⟩ _ hLQ fun β1 a1 w1 e1 s1=>?_
    · rw [Nat.blt_eq] at hk; omega
    · rw [Nat.blt_eq] at hk; omega
    · rw [Nat.blt_eq] at hk; omega
    · exact absurd ho (hnal k r D)
    · rw [hn]; simp [sizeS]
    · rw [look_start,if_pos (Nat.zero_le _),Nat.sub_zero]
      simp only [Array.getD_eq_getD_getElem?,Array.getElem?_append,List.size_toArray,List.length_map,List.getElem?_toArray,List.getElem?_map]
      split
      · rename_i hlt2
        rw [List.getElem?_eq_getElem hlt2]
        rfl
      · rename_i hge
        rw [List.getElem?_eq_none (by omega)]
        simp [Array.getElem?_replicate]
        split<;>rfl
    · dsimp only
      rw [look_start,if_pos (Nat.zero_le _),Nat.sub_zero]
      cases hx:args[t]? with
      | none=>rfl
      | some x=>exact List.all_eq_true.1 hargs x (List.mem_of_getElem? hx)
    ·
     have hdf:a1.defers=[]:=s1.defers
     obtain ⟨df0,hdf0⟩:∃ df0:Act,df0=a1:=⟨_,rfl⟩
     have s2:=s1.restart [] a1 rfl hdf
     have hm0L:obs.length≤fA.ob.length:=s1.m0.1
     show (Code.rangeFunc g ps x y).wpIn Fence.wide 10 P (postI none 10 P _ ks) a1 w1
     refine rf_law (n:=10) (gf:=gf) (lb:=lb β1) (by rw [s1.sl.eval]; exact hgv β1) eg vs.length (fun k=>((vs.getD k []).map (SV.den β1)).toArray)
      (fun k W=>∃ fk,stS P obs.length n Ns m ps x y fA.sl vs fA k=some fk∧∃ βk,(∀ i,i<fA.ob.length→βk i=β1 i)∧Sync P obs.length n (bdR fA.ob.length w1 obs.length fA.q (fun k=>fA.ob[k]?) β1 []) w1 fk βk a1 W)
      ?_ (fun W=>∃ f',(f'.ob.all obClB=true∧∀ β,Eqs.ok (fin1 P fn obs.length n res [] f' β))∧∃ βk,(∀ i,i<fA.ob.length→βk i=β1 i)∧Sync P obs.length n (bdR fA.ob.length w1 obs.length fA.q (fun k=>fA.ob[k]?) β1 []) w1 f' βk a1 W)
      ?_ ?_ ⟨fA,by cases vs<;>rfl,β1,fun _ _=>rfl,s2⟩ ?_ ?_ ?_ ?_
     · rintro k W ⟨fk,h1,βk,h2,s⟩ hk
       obtain ⟨⟨c1,c2,c3,c4⟩,c5,_⟩:=hS k fk h1
       obtain ⟨b,f',d1,_⟩:=c5 hk
       obtain ⟨_,_,_,d2,_⟩:=roundS_ok (nn:=0) (l:=0) hm d1 c1 c2
       simpa using d2
     · rintro k W W' row ⟨fk,h1,βk,h2,s⟩ hgr hrow
       obtain ⟨⟨c1,c2,c3,c4⟩,_⟩:=hS k fk h1
       exact ⟨fk,h1,βk,h2,⟨s.good.grown (all_cl c3) hgr hrow,s.q,s.sl,s.of,s.m0,s.defers,s.uq⟩⟩
     · rintro W W' row ⟨f',h1,βk,h2,s⟩ hgr hrow
       exact ⟨f',h1,βk,h2,⟨s.good.grown (all_cl h1.1) hgr hrow,s.q,s.sl,s.of,s.m0,s.defers,s.uq⟩⟩
     · intro l J Jx W hJ hY h0
       refine hiter β1 9 l J Jx W (fun k W hj p hp=>?_) hY h0
       obtain ⟨fk,h1,βk,h2,s⟩:=hJ k W hj
       obtain ⟨⟨c1,c2,c3,c4⟩,_⟩:=hS k fk h1
       have h3:=needs_hold s.good (fun k hk=>⟨hk,rfl⟩) need (c4 βk) p hp
       have h4:=List.all_eq_true.1 hneed p hp
       rw [Bool.and_eq_true,Nat.blt_eq] at h4
       rw [← h2 p.1 h4.1]
       exact Ob.holds_congr (q:=fun k=>Nat.blt k fA.ob.length) (fun i hi=>h2 i (by rw [Nat.blt_eq] at hi; exact hi)) p.2 h4.2 h3
     · rintro l k W hl hlo ⟨fk,h1,βk,h2,s⟩ hk
       obtain ⟨⟨c1,c2,c3,c4⟩,c5,_⟩:=hS k fk h1
       obtain ⟨b,f',d1,d2,d3,d4⟩:=c5 hk
       obtain ⟨_,_,_,_,d6,d5⟩:=roundS_ok (nn:=8) (l:=l) hm d1 c1 c2
       have hLk:fA.ob.length≤fk.ob.length:=s.m0.2
       have hvv:((vs.getD k []).map (SV.den β1))=((vs.getD k []).map (SV.den βk)):=List.map_congr_left fun z hz=>SV.den_congr (q:=fun _=>false) (fun k hk=>by cases hk) z (List.all_eq_true.1 d6 z hz)
       rw [hvv]
       exact d5 d2 c3 s rfl hLk w1.heap.size ⟨hl,hl⟩ hlo _ _ fun β' W' e s'=>⟨fun hb=>⟨f',d3 hb,β',fun i hi=>(e i (Nat.lt_of_lt_of_le hi hLk)).trans (h2 i hi),s'⟩,fun hb=>⟨f',d4 hb,β',fun i hi=>(e i (Nat.lt_of_lt_of_le hi hLk)).trans (h2 i hi),s'⟩⟩
     · rintro D W hD ⟨fN,h1,βN,h2,s⟩ hK
       obtain ⟨⟨c1,c2,c3,c4⟩,_,c6⟩:=hS _ fN h1
       obtain ⟨b,fB,d1,d2,d3⟩:=c6 rfl
       obtain ⟨j1,j2,j3⟩:=runI_ok (l:=none) (nn:=10) hm _ _ _ _ _ d1 c1
       have s3:=s.restart ({ target:=.collected D,args:=#[] }::a1.defers) { a1 with defers:={ target:=.collected D,args:=#[] }::a1.defers } rfl rfl
       refine j3 (fin_val d3).1 s3 _ hLQ fun β2 a2 W2 e2 s4=>?_
       have gB:=Good.back s.good s4.good fun i hi=>e2 i (Nat.lt_of_lt_of_le hi (Nat.le_trans hm0L s.m0.2))
       have hK2:=(keeps_from (B:=0) s.good (all_cl c3) s4.good.bel).same D _ (Nat.zero_le _) hK rfl
       have hdd:a2.defers=[{ target:=.collected D,args:=#[] }]:=by
        have:a2.defers={ target:=.collected D,args:=#[] }::a1.defers:=s4.defers
        rw [this,hdf]
       have hLL:=leave_ok (nn:=10) (R:=fun e w'=>e=.returned (res.den β)∧Below w.heap.size w w') s1.good d2 d3 gB s4.q s4.sl s4.m0.1 (fun i hi=>(e2 i (Nat.lt_of_lt_of_le hi (Nat.le_trans hm0L s.m0.2))).trans (h2 i (Nat.lt_of_lt_of_le hi hm0L))) hdd hD hK2 fun w' hb=>⟨by rw [hres β2 β],hb⟩
       cases b<;>exact hLL
     · rintro D W hD ⟨f',h1,βk,h2,s⟩ hK
       refine postI_ret ?_ ks
       have hdd:({ a1 with defers:={ target:=.collected D,args:=#[] }::a1.defers }:Act).defers=[{ target:=.collected D,args:=#[] }]:=by
        show ({ target:=.collected D,args:=#[] }:Deferred)::a1.defers=_
        rw [hdf]
       exact leave_ok (nn:=10) (R:=fun e w'=>e=.returned (res.den β)∧Below w.heap.size w w') s1.good h1.1 h1.2 s.good s.q (a:={ a1 with defers:={ target:=.collected D,args:=#[] }::a1.defers }) ⟨s.sl.1,s.sl.2⟩ s.m0.1 (fun i hi=>h2 i (Nat.lt_of_lt_of_le hi hm0L)) hdd hD hK fun w' hb=>⟨by rw [hres βk β],hb⟩
end Go.Proofs.YtdiemgedlfnlmaaGreat.Y
end
section
namespace Go.Proofs.YtdiemgedlfnlmaaGreat
open Go Go.RowKit Go.Shelf
attribute [local go_sem] Oper.semAt_some
def BwH (Bs b len cap:Nat) (V:Nat→List Value) (W:World):Prop :=
 W.cell? ⟨Bs,0,none⟩=some (.slice (some ⟨b,0,none⟩) len cap)∧∀ i,i<len→W.rangeAt b (i*33) (V i)
theorem bw_load {n:Nat} {P:Program} {T:TypeId} {ops:Array Oper} {rest:List Oper} {o:Oper} {a:Act} {w:World} {Q:Exit→Act→World→Prop} (hgd:o.guard=none) (x:Operand) (ho:o.op=.load T x) (p v:Value)
  (hx:a.eval x=p) (hl:(Instr.loadAt T p).run P w=.ok v w) (h:wpListIn Fence.wide n P ops Q rest (a.put o.dst v) w):wpListIn Fence.wide n P ops Q (o::rest) a w:=by
 refine wpListIn_plain hgd fun K hK=>⟨fun _ _=>trivial,?_⟩
 rw [show Fence.wide.round=none from rfl,Oper.semAt_none]
 unfold execOp
 simp only [ho,hx,Sem.run_bind,hl,Result.andThen_ok]
 exact hK _ _ h
set_option maxRecDepth 100000 in
set_option maxHeartbeats 4000000 in
theorem bwd1_in (n l Bs b len cap:Nat) (V:Nat→List Value) (hV:∀ i,(V i).length=33) (hreach:len≤4096) (J:Nat→World→Prop) (Jx:World→Prop)
  (hJ:∀ k W,J k W→BwH Bs b len cap V W)
  (hY:∀ k W,J k W→k<len→YieldAt Fence.wide (n-1) Tryz.prog l #[.int .i64 ((len:Int)-1-k),.agg (V (len-1-k)).toArray] W fun e W'=>(e=.returned (.bool true)∧J (k+1) W')∨(e=.returned (.bool false)∧Jx W'))
  (W:World) (h0:J 0 W) :
  CallsIn Fence.wide n Tryz.prog 315 #[.func (.yield l) #[] #[],.pointer (some ⟨Bs,0,none⟩)] W fun e W'=>(∃ v,e=.returned v)∧(J len W'∨Jx W'):=by
 have hB0:=(hJ 0 W h0).1
 have hn:Fence.wide.depth.isSome=true→1≤n:=fun e=>by simp [Fence.wide] at e
 refine callsIn_of_wp Tryz.func315 rfl trivial ?_ rfl
 simp only [Tryz.ntmps315,List.size_toArray,List.length_cons,List.length_nil,Nat.reduceAdd,Nat.reduceSub,Array.replicate_succ,Array.replicate_zero,List.push_toArray,List.append_toArray,List.nil_append,List.cons_append]
 gi_wp2
 gi_loopw [3] (fun i wr=>∃ k:Nat,k≤len∧i=.int .i64 ((len:Int)-1-k)∧J k wr)
  (fun i _=>(intOf i+1).toNat)
 case atStart=>exact ⟨0,Nat.zero_le _,by simp,h0⟩
 case round =>
  obtain ⟨k,hk,rfl,hJs⟩:=hrel
  obtain ⟨hB1,hR1⟩:=hJ k wr hJs
  by_cases hlt:k<len
  · obtain ⟨i,hi⟩:∃ i,i=len-1-k:=⟨_,rfl⟩
    have hi2:i<len:=by omega
    have hie:(len:Int)-1-(k:Int)=(i:Int):=by omega
    obtain ⟨fn,tmps,assign,body,hy,hR⟩:=hY k wr hJs hlt
    rw [hie] at hy ⊢
    rw [← hi] at hy
    clear hi
    have hl:=run_loadAt_mid (P:=Tryz.prog) wr b (i*33) 74 (V i) _ (hR1 i hi2) Tryz.underlying74 (by kernel_rfl) (by rw [hV]; kernel_rfl)
    gi_wp2_with (refine bw_load (T:=74) rfl _ rfl _ _ rfl hl ?_)
    refine ⟨hn,hR.mono ?_⟩
    rintro e W3 (⟨rfl,hJ3⟩ | ⟨rfl,hJx3⟩)
    · gi_wp2
      go_roundw
      case rel=>exact ⟨k+1,by omega,by congr 1; simp<;>omega,hJ3⟩
      case measure=>simp [intOf]<;>omega
    · gi_wp2
      refine bodyPost_ret (results_none rfl _ _ _) rfl ?_
      exact ⟨⟨_,rfl⟩,.inr hJx3⟩
  · obtain rfl:k=len:=by omega
    gi_wp2
    go_end0
    exact ⟨⟨_,rfl⟩,.inl hJs⟩
end Go.Proofs.YtdiemgedlfnlmaaGreat
end
section
namespace Go.Proofs.YtdiemgedlfnlmaaGreat
section
open Go.RowKit
theorem trim_take_pred (xs:List Nat) (k:Nat) (hk:0<k) (hl:k≤xs.length) (h0:xs.getD (k-1) 0=0):trim (xs.take (k-1))=trim (xs.take k):=by
 obtain ⟨j,rfl⟩:∃ j,k=j+1:=⟨k-1,by omega⟩
 simp only [Nat.add_sub_cancel] at *
 rw [List.take_succ_eq_append_getElem (by omega),← getD_in (by omega),h0,trim_snoc_zero]
theorem trim_take_done (xs:List Nat) (k:Nat) (hk:0<k) (hl:k≤xs.length) (h0:xs.getD (k-1) 0≠0):(trim (xs.take k)).length=k:=by
 obtain ⟨j,rfl⟩:∃ j,k=j+1:=⟨k-1,by omega⟩
 simp only [Nat.add_sub_cancel] at *
 rw [List.take_succ_eq_append_getElem (by omega),← getD_in (by omega),trim_snoc_pos _ _ h0]
 simp; omega
theorem cut_cells (xs:List Nat) (b o n cap:Nat) (w:World) (hn:xs.length=n) (hb:n≤17179869184) (hcap:n≤cap)
  (hc:∀ i,i<n→w.cell? ⟨b,o+i,none⟩=some (.int .u32 (xs.getD i 0:Nat))) :
  Calls Tryz.prog 382 #[.slice (some ⟨b,o,none⟩) n cap] w fun e w'=>e=.returned (.slice (some ⟨b,o,none⟩) (trim xs).length cap)∧w=w':=by
 have HN:=Lib.hid hn
 clear hn
 go_enter Tryz.func382,Tryz.ntmps382
 go_wp2
 go_loop [0] (fun s=>∃ k:Nat,k≤n∧s=.slice (some ⟨b,o,none⟩) k cap∧trim (xs.take k)=trim xs) (fun s=>match s with | .slice _ k _=>k | _=>0)
 case atStart=>exact ⟨n,Nat.le_refl _,rfl,by rw [List.take_of_length_le (by rw [HN.out]; exact Nat.le_refl _)]⟩
 case round =>
  obtain ⟨k,hk,rfl,hr⟩:=hrel
  have HR:=Lib.hid hr
  clear hr
  by_cases hk0:0<k
  · have hk1:(0:Int)≤(k:Int)-1:=by omega
    have hcell:=hc (k-1) (by omega)
    go_wp2
    · have h0:(((xs[k-1]?.getD 0:Nat):Int)==0)=true:=by assumption
      have h0':xs.getD (k-1) 0=0:=by simp at h0; simpa using h0
      exact ⟨⟨k-1,by omega,rfl,by rw [trim_take_pred xs k hk0 (by rw [HN.out]; exact hk) h0',HR.out]⟩,by simp; omega⟩
    · have h0:(((xs[k-1]?.getD 0:Nat):Int)==0)=false:=by assumption
      have h0':xs.getD (k-1) 0≠0:=by simp at h0; simpa using h0
      go_ret
      refine ⟨?_,rfl⟩
      have:=trim_take_done xs k hk0 (by rw [HN.out]; exact hk) h0'
      rw [HR.out] at this
      rw [this]
      rfl
  · obtain rfl:k=0:=by omega
    go_wp2
    go_ret
    refine ⟨?_,rfl⟩
    have:=HR.out
    have hz:(trim xs).length=0:=by rw [← this]; rfl
    rw [hz]
    rfl
theorem cut_any {w:World} {A:Option Addr} {n cap:Nat} {xs:List Nat} (h:Words w (.slice A n cap) xs) :
  Calls Tryz.prog 382 #[.slice A n cap] w fun e w'=>e=.returned (.slice A (trim xs).length cap)∧w=w':=by
 obtain ⟨hl,hcap⟩:=h.len
 by_cases h0:n=0
 · subst h0
   obtain rfl:xs=[]:=List.eq_nil_of_length_eq_zero hl.symm
   clear hl h
   go_enter Tryz.func382,Tryz.ntmps382
   go_wp2
   refine wp_loop_rounds 1 ?_
   rw [rounds_succ]
   go_wp2
   go_ret
   exact ⟨rfl,rfl⟩
 · obtain ⟨b,o,rfl,hc⟩:=h.open_ (by omega)
   exact cut_cells xs b o n cap w hl.symm (by rw [hl]; exact h.2.1) hcap hc
theorem ret_i {k:IntKind} {a b:Int} (h:a=b):Ending.returned (.int k a)=.returned (.int k b):=by rw [h]
theorem under_cells (xs ys:List Nat) (b o b' o' n ca cb:Nat) (r:Int) (w:World) (hx:xs.length=n) (hy:ys.length=n) (hb:n≤17179869184) (h0:0<n) (hwx:Wf xs) (hwy:Wf ys) (hr:r=cmpN (val xs) (val ys))
  (hc:∀ i,i<n→w.cell? ⟨b,o+i,none⟩=some (.int .u32 (xs.getD i 0:Nat))) (hd:∀ i,i<n→w.cell? ⟨b',o'+i,none⟩=some (.int .u32 (ys.getD i 0:Nat))) :
  Calls Tryz.prog 375 #[.slice (some ⟨b,o,none⟩) n ca,.slice (some ⟨b',o',none⟩) n cb] w fun e w'=>e=.returned (.int .i64 r)∧Dr w w':=by
 have HX:=Lib.hid hx
 have HY:=Lib.hid hy
 have HR:=Lib.hid hr
 clear hx hy hr
 go_enter Tryz.func375,Tryz.ntmps375
 go_wp2
 go_loopw [5] (fun i wr=>∃ k:Nat,k≤n∧i=.int .i64 ((k:Int)-1)∧(∀ j,k≤j→j<n→xs.getD j 0=ys.getD j 0)∧Dr w wr) (fun i _=>(intOf i+1).toNat)
 case atStart=>exact ⟨n,Nat.le_refl _,rfl,fun j h1 h2=>by omega,Dr.refl _⟩
 case round =>
  obtain ⟨k,hk,rfl,hs,d,rfl⟩:=hrel
  have HS:=Lib.hid hs
  clear hs
  by_cases hk0:0<k
  · obtain ⟨k,rfl⟩:∃ j,k=j+1:=⟨k-1,by omega⟩
    have e1:((k+1:Nat):Int)-1=(k:Int):=by omega
    rw [e1]
    clear e1
    have hk1:(0:Int)≤(k:Int):=by omega
    have hk2:(k:Int)<(n:Int):=by omega
    have hcell:=hc k (by omega)
    have hcell':=hd k (by omega)
    go_wp2
    go_quiet (fail)
    go_wp2
    · have h1:(xs[k]?.getD 0)<(ys[k]?.getD 0):=by assumption
      go_ret
      refine ⟨ret_i ?_,by repeat (first | exact ⟨_,rfl⟩ | refine Dr.n ?_ _)⟩
      have h2:=val_lt_of xs ys k hwx (by rw [HX.out,HY.out]) (by rw [HX.out]; omega) (by simpa using h1) (fun j h3 h4=>HS.out j (by omega) (by rw [HX.out] at h4; exact h4))
      rw [HR.out,cmpN,if_pos h2]
    · go_quiet (fail)
      go_wp2
      · have h1:(ys[k]?.getD 0)<(xs[k]?.getD 0):=by assumption
        go_ret
        refine ⟨ret_i ?_,by repeat (first | exact ⟨_,rfl⟩ | refine Dr.n ?_ _)⟩
        have h2:=val_lt_of ys xs k hwy (by rw [HX.out,HY.out]) (by rw [HY.out]; omega) (by simpa using h1) (fun j h3 h4=>(HS.out j (by omega) (by rw [HY.out] at h4; exact h4)).symm)
        rw [HR.out,cmpN,if_neg (by omega),if_pos h2]
      · have h1:(ys[k]?.getD 0)≤(xs[k]?.getD 0):=Nat.le_of_not_lt (by assumption)
        have h2:(xs[k]?.getD 0)≤(ys[k]?.getD 0):=Nat.le_of_not_lt (by assumption)
        go_roundw
        case rel =>
         refine ⟨k,by omega,rfl,fun j h3 h4=>?_,by repeat (first | exact ⟨_,rfl⟩ | refine Dr.n ?_ _)⟩
         rcases Nat.eq_or_lt_of_le h3 with rfl | h5
         · simpa using Nat.le_antisymm h2 h1
         · exact HS.out j (by omega) h4
        case measure=>simp [intOf]
  · obtain rfl:k=0:=by omega
    go_wp2
    go_ret
    refine ⟨ret_i ?_,_,rfl⟩
    have:xs=ys:=val_eq_of_same xs ys (by rw [HX.out,HY.out]) (fun i hi=>HS.out i (by omega) (by rw [HX.out] at hi; exact hi))
    rw [HR.out,this]
    simp [cmpN]
theorem under_any {w:World} {A B:Option Addr} {la ca lb cb n m:Nat} (hx:Words w (.slice A la ca) (dig n)) (hy:Words w (.slice B lb cb) (dig m)) :
  Calls Tryz.prog 375 #[.slice A la ca,.slice B lb cb] w fun e w'=>e=.returned (.int .i64 (cmpN n m))∧Dr w w':=by
 have hla:=hx.len.1
 have hlb:=hy.len.1
 have hsz:=hx.2.1
 have hsz2:=hy.2.1
 rcases Nat.lt_trichotomy la lb with h | h | h
 · have hc:cmpN n m = -1:=by rw [cmpN,if_pos (dig_len_lt n m (by omega))]
   rw [hc]
   rw [← hla] at hsz
   rw [← hlb] at hsz2
   clear hx hy hc hla hlb
   go_enter Tryz.func375,Tryz.ntmps375
   go_wp2
   go_ret
   exact ⟨rfl,Dr.refl _⟩
 · subst h
   by_cases h0:la=0
   · subst h0
     have e1:=(dig_nil_iff n).1 (List.eq_nil_of_length_eq_zero hla.symm)
     have e2:=(dig_nil_iff m).1 (List.eq_nil_of_length_eq_zero hlb.symm)
     have hc:cmpN n m=0:=by rw [e1,e2]; rfl
     rw [hc]
     clear hx hy hc hla hlb hsz hsz2 e1 e2
     go_enter Tryz.func375,Tryz.ntmps375
     go_wp2
     refine wp_loop_rounds 1 ?_
     rw [rounds_succ]
     go_wp2
     go_ret
     exact ⟨rfl,Dr.refl _⟩
   · obtain ⟨b,o,rfl,hc⟩:=hx.open_ (by omega)
     obtain ⟨b',o',rfl,hd⟩:=hy.open_ (by omega)
     exact under_cells (dig n) (dig m) b o b' o' la ca cb _ w hla.symm hlb.symm (by omega) (by omega) (Wf_dig n) (Wf_dig m) (by rw [val_dig,val_dig]) hc hd
 · have hc:cmpN n m=1:=by have:=dig_len_lt m n (by omega); rw [cmpN,if_neg (by omega),if_pos this]
   rw [hc]
   rw [← hla] at hsz
   rw [← hlb] at hsz2
   clear hx hy hc hla hlb
   go_enter Tryz.func375,Tryz.ntmps375
   go_wp2
   go_ret
   exact ⟨rfl,Dr.refl _⟩
end
section
open Go.RowKit
theorem more_core (A B:Option Addr) (la ca lb cb:Nat) (xs ys:List Nat) (v0 v1:Value) (w:World) (hx:Words w (.slice A la ca) xs) (hy:Words w (.slice B lb cb) ys) (hsz:la≤8589934592)
  (hv:(v0=.slice A la ca∧v1=.slice B lb cb∧lb≤la)∨(v1=.slice A la ca∧v0=.slice B lb cb∧lb<la)) :
  Calls Tryz.prog 376 #[v0,v1] w fun e w'=>∃ v zs,e=.returned v∧Words w' v zs∧val zs=val xs+val ys∧Below w.heap.size w w':=by
 have hla:=Lib.hid hx.len.1
 have hlb:=Lib.hid hy.len.1
 have HA:=Lib.hid hx
 have HB:=Lib.hid hy
 have hwx:=Lib.hid hx.1
 have hwy:=Lib.hid hy.1
 clear hx hy
 rcases hv with ⟨rfl,rfl,hle⟩ | ⟨rfl,rfl,hle⟩
 all_goals
  go_enter Tryz.func376,Tryz.ntmps376
  go_wp2_with (at_make; refine wpList_make_words rfl _ _ rfl _ _ _ _ (la+1) (la+1) rfl rfl (by omega) (by omega) (Nat.le_refl _) (by omega) ?_)
  intro w1 hbuf hb1 hz1
  have HZ:=Lib.hid hz1
  clear hz1
  go_wp2
  go_loopw [6,22] (fun c i wr=>∃ (k d:Nat) (zs:List Nat),k≤la∧d≤1∧c=.int .u64 (d:Int)∧i=.int .i64 (k:Int)∧Hid (zs.length=k)∧Hid (val zs+4294967296^k*d=val (xs.take k)+val (ys.take k))∧Buf wr w.heap.size (zs++List.replicate (la+1-k) 0)∧Below w.heap.size w wr) (fun _ i _=>la-(intOf i).toNat)
  case atStart=>exact ⟨0,0,[],by omega,by omega,rfl,rfl,rfl,by simp [Hid,val],by simpa using hbuf,hb1⟩
  case round =>
   obtain ⟨k,d,zs,hk,hd,rfl,rfl,HK,HV,hbuf',hb'⟩:=hrel
   have hlt:=hb'.size
   have hblt:=hbuf'.lt
   clear hbuf hb1 HZ
   by_cases hk1:k<la
   · have hX:=(HA.out.below hb')
     obtain ⟨b,o,rfl,hcx⟩:=hX.open_ (by omega)
     have hcx:=hcx k hk1
     have hxl:((xs[k]?.getD 0:Nat):Int)<4294967296:=by have:=hwx.out.get? k; omega
     have hst:=hbuf'.cell k (by rw [List.length_append,HK.out,List.length_replicate]; omega)
     have hfz:=hbuf'.frozen k
     have HBUF:=Lib.hid hbuf'
     clear hX hbuf'
     by_cases hk2:k<lb
     · have hY:=(HB.out.below hb')
       obtain ⟨b2,o2,rfl,hcy⟩:=hY.open_ (by omega)
       have hcy:=hcy k hk2
       have hyl:((ys[k]?.getD 0:Nat):Int)<4294967296:=by have:=hwy.out.get? k; omega
       clear hY
       go_wp2
       go_roundw
       case rel =>
        refine ⟨k+1,(d+xs.getD k 0+ys.getD k 0)/4294967296,zs++[(d+xs.getD k 0+ys.getD k 0) % 4294967296],by omega,by simp only [List.getD]; omega,?_,rfl,?_,more_val _ _ _ _ _ _ HK.out HV.out rfl,?_,hb'.setCell (Nat.le_refl _) _⟩
        · simp only [List.getD]; go_num
        · rw [Hid,List.length_append,HK.out]; rfl
        · have:=HBUF.out.push HK.out (by omega) ((d+xs.getD k 0+ys.getD k 0) % 4294967296) _ (by omega) (by simp only [List.getD]; try go_num)
          rw [show la+1-k-1=la+1-(k+1) from by omega] at this
          exact this
       case measure=>simp [intOf]; omega
     · have hy0:ys.getD k 0=0:=getD_out (by have:=hlb.out; omega)
       have HY0:=Lib.hid hy0
       clear hy0
       go_wp2
       go_roundw
       case rel =>
        refine ⟨k+1,(d+xs.getD k 0+ys.getD k 0)/4294967296,zs++[(d+xs.getD k 0+ys.getD k 0) % 4294967296],by omega,by rw [HY0.out]; simp only [List.getD]; omega,?_,rfl,?_,more_val _ _ _ _ _ _ HK.out HV.out rfl,?_,hb'.setCell (Nat.le_refl _) _⟩
        · rw [HY0.out]; simp only [List.getD]; go_num
        · rw [Hid,List.length_append,HK.out]; rfl
        · have:=HBUF.out.push HK.out (by omega) ((d+xs.getD k 0+ys.getD k 0) % 4294967296) _ (by omega) (by rw [HY0.out]; try (simp only [List.getD]; try go_num))
          rw [show la+1-k-1=la+1-(k+1) from by omega] at this
          exact this
       case measure=>simp [intOf]; omega
   · obtain rfl:k=la:=by omega
     have hst:=hbuf'.cell k (by rw [List.length_append,HK.out,List.length_replicate]; omega)
     have hfz:=hbuf'.frozen k
     have HBUF:=Lib.hid hbuf'
     clear hbuf'
     go_wp2
     go_ret
     have hpush:=HBUF.out.push HK.out (by omega) d _ (by omega) (by go_num)
     rw [show k+1-k-1=0 from by omega,List.replicate_zero,List.append_nil] at hpush
     have hlen:(zs++[d]).length=k+1:=by rw [List.length_append,HK.out]; rfl
     have hw:=hpush.words (cap:=k+1) (by rw [hlen]; omega) (by rw [hlen]; exact Nat.le_refl _)
     rw [hlen] at hw
     refine ⟨_,_,rfl,hw,?_,hb'.setCell (Nat.le_refl _) _⟩
     have h1:=HV.out
     rw [val_snoc,HK.out,h1,val_take_all _ _ (by rw [hla.out]; exact Nat.le_refl _),val_take_all _ _ (by rw [← hlb.out]; omega)]
theorem more_any {A B:Option Addr} {la ca lb cb:Nat} {xs ys:List Nat} {w:World} (hx:Words w (.slice A la ca) xs) (hy:Words w (.slice B lb cb) ys) (h1:la≤8589934592) (h2:lb≤8589934592) :
  Calls Tryz.prog 376 #[.slice A la ca,.slice B lb cb] w fun e w'=>∃ v zs,e=.returned v∧Words w' v zs∧val zs=val xs+val ys∧Below w.heap.size w w':=by
 rcases Nat.lt_or_ge la lb with h | h
 · refine (more_core B A lb cb la ca ys xs _ _ w hy hx h2 (.inr ⟨rfl,rfl,h⟩)).mono fun e w' ⟨v,zs,r1,r2,r3,r4⟩=>⟨v,zs,r1,r2,by omega,r4⟩
 · exact more_core A B la ca lb cb xs ys _ _ w hx hy h1 (.inl ⟨rfl,rfl,h⟩)
theorem less_any {A B:Option Addr} {la ca lb cb:Nat} {xs ys:List Nat} {w:World} (hx:Words w (.slice A la ca) xs) (hy:Words w (.slice B lb cb) ys) (hsz:la≤8589934592) (hle:val ys≤val xs) (hlen:lb≤la) :
  Calls Tryz.prog 377 #[.slice A la ca,.slice B lb cb] w fun e w'=>∃ v zs,e=.returned v∧Words w' v zs∧val zs=val xs-val ys∧Below w.heap.size w w':=by
 have hla:=Lib.hid hx.len.1
 have hlb:=Lib.hid hy.len.1
 have HA:=Lib.hid hx
 have HB:=Lib.hid hy
 have hwx:=Lib.hid hx.1
 have hwy:=Lib.hid hy.1
 have HL:=Lib.hid hle
 clear hx hy hle
 go_enter Tryz.func377,Tryz.ntmps377
 go_wp2_with (at_make; refine wpList_make_words rfl _ _ rfl _ _ _ _ la la rfl rfl rfl rfl (Nat.le_refl _) (by omega) ?_)
 intro w1 hbuf hb1 hz1
 have HZ:=Lib.hid hz1
 clear hz1
 go_wp2
 go_loopw [6,16] (fun c i wr=>∃ (k d:Nat) (zs:List Nat),k≤la∧d≤1∧c=.int .u64 (d:Int)∧i=.int .i64 (k:Int)∧Hid (zs.length=k)∧Hid (val zs+val (ys.take k)=val (xs.take k)+4294967296^k*d)∧Buf wr w.heap.size (zs++List.replicate (la-k) 0)∧Below w.heap.size w wr) (fun _ i _=>la-(intOf i).toNat)
 case atStart=>exact ⟨0,0,[],by omega,by omega,rfl,rfl,rfl,by simp [Hid,val],by simpa using hbuf,hb1⟩
 case round =>
  obtain ⟨k,d,zs,hk,hd,rfl,rfl,HK,HV,hbuf',hb'⟩:=hrel
  have hlt:=hb'.size
  have hblt:=hbuf'.lt
  clear hbuf hb1 HZ
  by_cases hk1:k<la
  · have hX:=(HA.out.below hb')
    obtain ⟨b,o,rfl,hcx⟩:=hX.open_ (by omega)
    have hcx:=hcx k hk1
    have hxl:=hwx.out.get? k
    have hst:=hbuf'.cell k (by rw [List.length_append,HK.out,List.length_replicate]; omega)
    have hfz:=hbuf'.frozen k
    have HBUF:=Lib.hid hbuf'
    clear hX hbuf'
    by_cases hk2:k<lb
    · have hY:=(HB.out.below hb')
      obtain ⟨b2,o2,rfl,hcy⟩:=hY.open_ (by omega)
      have hcy:=hcy k hk2
      have hyl:=hwy.out.get? k
      obtain ⟨D,z,d',hD,hDz,hDd,hz,hd',he⟩:=sub_word (xs[k]?.getD 0) (d+ys[k]?.getD 0) hxl (by omega)
      have HE:=Lib.hid he
      clear hY he
      rw [Int.natCast_add] at hD
      go_wp2
      go_roundw
      case rel =>
       refine ⟨k+1,d',zs++[z],by omega,hd',rfl,rfl,?_,less_val _ _ _ _ _ _ _ HK.out HV.out (by simpa only [List.getD] using HE.out),?_,hb'.setCell (Nat.le_refl _) _⟩
       · rw [Hid,List.length_append,HK.out]; rfl
       · have:=HBUF.out.push HK.out (by omega) z _ (by omega) rfl
         rw [show la-k-1=la-(k+1) from by omega] at this
         exact this
      case measure=>simp [intOf]; omega
    · have hy0:ys.getD k 0=0:=getD_out (by have:=hlb.out; omega)
      have HY0:=Lib.hid hy0
      obtain ⟨D,z,d',hD,hDz,hDd,hz,hd',he⟩:=sub_word (xs[k]?.getD 0) d hxl (by omega)
      have HE:=Lib.hid he
      clear hy0 he
      go_wp2
      go_roundw
      case rel =>
       refine ⟨k+1,d',zs++[z],by omega,hd',rfl,rfl,?_,less_val _ _ _ _ _ _ _ HK.out HV.out (by rw [HY0.out,Nat.add_zero]; simpa only [List.getD] using HE.out),?_,hb'.setCell (Nat.le_refl _) _⟩
       · rw [Hid,List.length_append,HK.out]; rfl
       · have:=HBUF.out.push HK.out (by omega) z _ (by omega) rfl
         rw [show la-k-1=la-(k+1) from by omega] at this
         exact this
      case measure=>simp [intOf]; omega
  · obtain rfl:k=la:=by omega
    rw [Nat.sub_self,List.replicate_zero,List.append_nil] at hbuf'
    have hw:=hbuf'.words (cap:=k) (by rw [HK.out]; omega) (by rw [HK.out]; exact Nat.le_refl _)
    have hzw:=hbuf'.1
    rw [HK.out] at hw
    have HW:=Lib.hid hw
    clear hw hbuf'
    go_wp2
    go_ret
    refine ⟨_,_,rfl,HW.out,less_end xs ys zs k d hzw HK.out ?_ HL.out hd,hb'⟩
    have h1:=HV.out
    rw [val_take_all ys _ (by rw [← hlb.out]; omega),val_take_all xs _ (by rw [hla.out]; exact Nat.le_refl _)] at h1
    exact h1
end
section
open Go.RowKit
set_option maxHeartbeats 1000000 in
theorem product_any {A B:Option Addr} {la ca lb cb:Nat} {xs ys:List Nat} {w:World} (hx:Words w (.slice A la ca) xs) (hy:Words w (.slice B lb cb) ys) (h1:la≤8589934592) (h2:lb≤8589934592) :
  Calls Tryz.prog 355 #[.slice A la ca,.slice B lb cb] w fun e w'=>∃ v zs,e=.returned v∧Words w' v zs∧val zs=val xs*val ys∧Below w.heap.size w w':=by
 have hla:=Lib.hid hx.len.1
 have hlb:=Lib.hid hy.len.1
 have HA:=Lib.hid hx
 have HB:=Lib.hid hy
 have hwx:=Lib.hid hx.1
 have hwy:=Lib.hid hy.1
 clear hx hy
 go_enter Tryz.func355,Tryz.ntmps355
 go_wp2_with (at_make; refine wpList_make_words rfl _ _ rfl _ _ _ _ (la+lb) (la+lb) rfl rfl (by omega) (by omega) (Nat.le_refl _) (by omega) ?_)
 intro w1 hbuf hb1 hz1
 have HZ:=Lib.hid hz1
 clear hz1
 go_wp2
 go_loopw [19] (fun i wr=>∃ (k:Nat) (os:List Nat),k≤la∧i=.int .i64 (k:Int)∧Hid (os.length=la+lb)∧Hid (val os=val (xs.take k)*val ys)∧Hid (∀ j,k+lb≤j→os.getD j 0=0)∧Buf wr w.heap.size os∧Below w.heap.size w wr) (fun i _=>la-(intOf i).toNat)
 case atStart=>exact ⟨0,List.replicate (la+lb) 0,by omega,rfl,by simp [Hid],by simp [Hid,val,val_zeros],fun j _=>by simp [List.getD,List.getElem?_replicate]; split<;>rfl,hbuf,hb1⟩
 case round =>
  obtain ⟨i,os,hi,rfl,HK,HV,H0,hbuf',hb'⟩:=hrel
  obtain ⟨wo,rfl⟩:∃ wo:World,wo=wr:=⟨_,rfl⟩
  clear hbuf hb1 HZ
  by_cases hk1:i<la
  · have hX:=(HA.out.below hb')
    obtain ⟨b,o,rfl,hcx⟩:=hX.open_ (by omega)
    have hcx:=hcx i hk1
    have hxl:=hwx.out.get? i
    have HBUF:=Lib.hid hbuf'
    clear hX hbuf'
    go_wp2
    go_loopw [8,26] (fun c j wr=>∃ (k d:Nat) (os':List Nat),k≤lb∧d<4294967296∧c=.int .u64 (d:Int)∧j=.int .i64 (k:Int)∧Hid (os'.length=la+lb)∧Hid (val os'+4294967296^(i+k)*d=val os+4294967296^i*(xs.getD i 0*val (ys.take k)))∧Hid (∀ j,i+lb≤j→os'.getD j 0=0)∧Buf wr w.heap.size os'∧Below w.heap.size w wr) (fun _ j _=>lb-(intOf j).toNat)
    case atStart=>exact ⟨0,0,os,by omega,by omega,rfl,rfl,HK,by simp [Hid,val],H0,HBUF.out,hb'⟩
    case round =>
     obtain ⟨k,d,os',hk,hd,rfl,rfl,HK',HV',H0',hbuf2,hb2⟩:=hrel
     have hlt:=hb2.size
     have hblt:=hbuf2.lt
     clear hb' hcx
     by_cases hk2:k<lb
     · have hY:=(HB.out.below hb2)
       obtain ⟨b2,o2,rfl,hcy⟩:=hY.open_ (by omega)
       have hcy:=hcy k hk2
       have hyl:=hwy.out.get? k
       have hst:=hbuf2.cell (i+k) (by rw [HK'.out]; omega)
       have hfz:=hbuf2.frozen (i+k)
       have hol:=hbuf2.1.get? (i+k)
       obtain ⟨m,hm⟩:∃ m,m=xs[i]?.getD 0*ys[k]?.getD 0:=⟨_,rfl⟩
       have hmb:m≤18446744065119617025:=by rw [hm]; exact mul_word _ _ hxl hyl
       have hmi:((xs[i]?.getD 0:Nat):Int)*((ys[k]?.getD 0:Nat):Int)=(m:Int):=by rw [hm]; exact (Int.natCast_mul _ _).symm
       have HM:=Lib.hid hm
       have HBUF2:=Lib.hid hbuf2
       clear hY hbuf2 hm HBUF
       go_wp2
       go_roundw
       case rel =>
        refine ⟨k+1,(d+(m+os'.getD (i+k) 0))/4294967296,os'.set (i+k) ((d+(m+os'.getD (i+k) 0)) % 4294967296),by omega,by simp only [List.getD]; omega,by simp only [List.getD]; go_num,rfl,?_,?_,?_,?_,hb2.setCell (Nat.le_refl _) _⟩
        · rw [Hid,List.length_set]; exact HK'.out
        · exact prod_val os os' ys i k d (xs.getD i 0) _ (by rw [HK'.out]; omega) HV'.out (by rw [HM.out]; rfl)
        · intro j hj
          rw [getD_set,if_neg (by omega)]
          exact H0'.out j hj
        · exact HBUF2.out.set (i+k) _ _ (by omega) (by simp only [List.getD]; go_num)
       case measure=>simp [intOf]; omega
     · obtain rfl:k=lb:=by omega
       have hst:=hbuf2.cell (i+k) (by rw [HK'.out]; omega)
       have hfz:=hbuf2.frozen (i+k)
       have HBUF2:=Lib.hid hbuf2
       clear hbuf2 HBUF
       go_wp2
       go_roundw
       case rel =>
        refine ⟨i+1,os'.set (i+k) d,by omega,rfl,?_,?_,?_,HBUF2.out.set (i+k) d _ hd (by go_num),hb2.setCell (Nat.le_refl _) _⟩
        · rw [Hid,List.length_set]; exact HK'.out
        · have h1:=HV'.out
          rw [val_take_all ys k (by rw [hlb.out]; exact Nat.le_refl _)] at h1
          have hl:=hlb.out
          have h2:=H0'.out (i+k) (Nat.le_refl _)
          rw [hl] at h1 h2 ⊢
          exact prod_end os os' xs ys i d (by rw [HK'.out]; omega) h2 HV.out h1
        · intro j hj
          rw [getD_set]
          split
          · omega
          · exact H0'.out j (by omega)
       case measure=>simp [intOf]; omega
  · obtain rfl:i=la:=by omega
    have hw:=hbuf'.words (cap:=i+lb) (by rw [HK.out]; omega) (by rw [HK.out]; exact Nat.le_refl _)
    rw [HK.out] at hw
    have HW:=Lib.hid hw
    clear hw hbuf'
    go_wp2
    go_ret
    refine ⟨_,_,rfl,HW.out,?_,hb'⟩
    rw [HV.out,val_take_all xs _ (by rw [hla.out]; exact Nat.le_refl _)]
end
section
open Go.RowKit
theorem left_any {A:Option Addr} {la ca:Nat} {xs:List Nat} {w:World} (hx:Words w (.slice A la ca) xs) (h1:la≤8589934592) (n:Nat) (hn:n≤137438953472) :
  Calls Tryz.prog 387 #[.slice A la ca,.int .i64 (n:Int)] w fun e w'=>∃ v,e=.returned v∧Words w' v (dig (val xs*2^n))∧Below w.heap.size w w':=by
 have hla:=Lib.hid hx.len.1
 have HA:=Lib.hid hx
 have hwx:=Lib.hid hx.1
 clear hx
 obtain ⟨s,hs⟩:∃ s,s=n % 32:=⟨_,rfl⟩
 have hs32:s<32:=by omega
 have hsi:(n:Int) % 32=(s:Int):=by omega
 have HS:=Lib.hid hs
 clear hs
 go_enter Tryz.func387,Tryz.ntmps387
 go_wp2_with (at_make; refine wpList_make_words rfl _ _ rfl _ _ _ _ (n/32) (n/32+la+1) rfl rfl (by omega) (by omega) (by omega) (by omega) ?_)
 intro w1 hbuf hb1 hz1
 have HROW:=Lib.hid (Row.of_buf (n:=n/32) hbuf (Nat.le_refl _) (by omega) (by omega))
 have HZ:=Lib.hid hz1
 clear hz1 hbuf
 go_wp2
 go_loopw [5,6,20] (fun v c i wr=>∃ (k d:Nat) (ys:List Nat),k≤la∧Hid (d<2^s)∧c=.int .u64 (d:Int)∧i=.int .i64 (k:Int)∧Hid (ys.length=k)∧Hid (val ys+4294967296^k*d=val (xs.take k)*2^s)∧Hid (Row wr w.heap.size v (List.replicate (n/32) 0++ys))∧Below w.heap.size w wr) (fun _ _ i _=>la-(intOf i).toNat)
 case atStart=>exact ⟨0,0,[],by omega,Nat.two_pow_pos _,rfl,rfl,rfl,by simp [Hid,val],by simpa [Hid] using HROW.out,hb1⟩
 case round =>
  obtain ⟨k,d,ys,hk,HD,rfl,rfl,HK,HV,hrow',hb'⟩:=hrel
  have hlt:=hb'.size
  clear HROW hb1 HZ
  by_cases hk1:k<la
  · have hX:=(HA.out.below hb')
    obtain ⟨b,o,rfl,hcx⟩:=hX.open_ (by omega)
    have hcx:=hcx k hk1
    have hxl:=hwx.out.get? k
    obtain ⟨m,hm⟩:∃ m,m=xs[k]?.getD 0*2^s:=⟨_,rfl⟩
    have hmi:((xs[k]?.getD 0:Nat):Int)*2^s=(m:Int):=by rw [hm,Int.natCast_mul,Int.natCast_pow]; rfl
    have hmb:=mul_two_pow_lt (xs[k]?.getD 0) s hxl (by omega)
    rw [← hm] at hmb
    have hsp:2^s≤2^32:=Nat.pow_le_pow_right (by omega) (by omega)
    have hp:=Nat.two_pow_pos s
    have hd1:=HD.out
    have hm1:m≤18446744073709551615:=by omega
    have hd2:d≤4294967296:=by omega
    have hor:bits BinOp.or IntKind.u64 (d:Int) (m:Int)=((d+m:Nat):Int):=by rw [bits_or_u64_nat d m (by omega) (by omega),hm,or_add _ _ _ hd1]
    rw [Int.natCast_add] at hor
    have hsum:d+m≤18446744073709551615:=by omega
    have HM:=Lib.hid hm
    clear hX hm hmb hsp hp hd1
    go_wp2_with (at_builtin; refine wpList_append_word rfl (.tmp 31) (.tmp 34) rfl w.heap.size _ (List.replicate (n/32) 0++ys) rfl (hrow'.out.alloc _) ⟨wr.heap.size,0,none⟩ 1 ((d+m) % 4294967296) _ rfl (cell_new0 _ _ _) ?_ (by omega) ?_ ?_ ?_)
    · omega
    · simp only [List.length_append,List.length_replicate,HK.out]; omega
    · simp; omega
    · intro v' w' hrow2 hb2
      have HR2:=Lib.hid hrow2
      have hb3:Below w.heap.size w w':=(hb'.alloc (by omega) _).trans hb2
      clear hrow2 hb2 hb'
      go_wp2
      go_roundw
      case rel =>
       refine ⟨k+1,(d+m)/4294967296,ys++[(d+m) % 4294967296],by omega,?_,by go_num,rfl,?_,?_,HR2.out,hb3⟩
       · rw [Hid,HM.out]; exact left_carry _ s d hxl (by omega) HD.out
       · rw [Hid,List.length_append,HK.out]; rfl
       · exact left_val xs ys k d s _ HK.out HV.out (by rw [HM.out]; rfl)
      case measure=>simp [intOf]; omega
  · obtain rfl:k=la:=by omega
    have hsp:2^s≤2^32:=Nat.pow_le_pow_right (by omega) (by omega)
    have hd1:d<4294967296:=by have:=HD.out; omega
    clear hsp
    go_wp2_with (at_builtin; refine wpList_append_word rfl (.tmp 39) (.tmp 42) rfl w.heap.size _ (List.replicate (n/32) 0++ys) rfl (hrow'.out.alloc _) ⟨wr.heap.size,0,none⟩ 1 d _ rfl (cell_new0 _ _ _) ?_ hd1 ?_ ?_ ?_)
    · omega
    · simp only [List.length_append,List.length_replicate,HK.out]; omega
    · simp; omega
    · intro v' w' hrow2 hb2
      have hb3:Below w.heap.size w w':=(hb'.alloc (by omega) _).trans hb2
      have hw:=hrow2.words (by simp only [List.length_append,List.length_replicate,HK.out,List.length_cons,List.length_nil]; omega)
      have HW:=Lib.hid hw
      obtain ⟨A',L',cap',rfl⟩:=hw.form
      clear hrow2 hb2 hb' hw
      go_wp2_with (go_at_call 382; refine (cut_any HW.out).mono ?_; rintro e w2 ⟨rfl,rfl⟩)
      go_ret
      refine ⟨_,rfl,?_,hb3⟩
      have h2:=HW.out.trim_
      have h3:trim (List.replicate (n/32) 0++(ys++[d]))=dig (val xs*2^n):=by
       refine dig_of _ _ HW.out.1 (left_end xs ys n d ?_)
       have:=HV.out
       rw [val_take_all xs _ (by rw [hla.out]; exact Nat.le_refl _),HS.out] at this
       rw [HK.out]; exact this
      rw [← h3]
      exact h2
theorem or_two (a x:Nat) (ha:a<4294967296) (hx:x<4294967296):bits BinOp.or IntKind.u64 ((a:Int)*4294967296) (x:Int)=((a*4294967296+x:Nat):Int):=by
 have:=bits_or_u64_nat (a*4294967296) x (by omega) (by omega)
 rw [or_word a x hx] at this
 rw [← this]; rfl
theorem or_two' (a x:Nat) (ha:a<4294967296) (hx:x<4294967296):bits BinOp.or IntKind.u64 (x:Int) ((a:Int)*4294967296)=((a*4294967296+x:Nat):Int):=by
 have:=bits_or_u64_nat x (a*4294967296) (by omega) (by omega)
 rw [Nat.or_comm,or_word a x hx] at this
 rw [← this]; rfl
theorem short_any {A:Option Addr} {la ca:Nat} {xs:List Nat} {w:World} (hx:Words w (.slice A la ca) xs) (h1:la≤17179869184) (d:Nat) (hd0:0<d) (hd:d<4294967296) :
  Calls Tryz.prog 373 #[.slice A la ca,.int .u32 (d:Int)] w fun e w'=>∃ v,e=.returned (.tuple #[v,.int .u32 ((val xs % d:Nat):Int)])∧Words w' v (dig (val xs/d))∧Below w.heap.size w w':=by
 have hla:=Lib.hid hx.len.1
 have HA:=Lib.hid hx
 have hwx:=Lib.hid hx.1
 clear hx
 have hd1:(1:Int)≤(d:Int):=by omega
 go_enter Tryz.func373,Tryz.ntmps373
 go_wp2_with (at_make; refine wpList_make_words rfl _ _ rfl _ _ _ _ la la rfl rfl rfl rfl (by omega) (by omega) ?_)
 intro w1 hbuf hb1 hz1
 have HZ:=Lib.hid hz1
 clear hz1
 go_wp2
 go_loopw [7,8] (fun c i wr=>∃ (k r:Nat) (qs:List Nat),k≤la∧r<d∧c=.int .u64 (r:Int)∧i=.int .i64 ((k:Int)-1)∧Hid (qs.length=la-k)∧Hid (val qs*d+r=val (xs.drop k))∧Buf wr w.heap.size (List.replicate k 0++qs)∧Below w.heap.size w wr) (fun _ i _=>(intOf i+1).toNat)
 case atStart=>exact ⟨la,0,[],by omega,hd0,rfl,rfl,by simp [Hid],by rw [Hid,List.drop_of_length_le (by rw [hla.out]; exact Nat.le_refl _)]; simp [val],by simpa using hbuf,hb1⟩
 case round =>
  obtain ⟨k,r,qs,hk,hr,rfl,rfl,HK,HV,hbuf',hb'⟩:=hrel
  have hlt:=hb'.size
  have hblt:=hbuf'.lt
  clear hbuf hb1 HZ
  by_cases hk0:0<k
  · obtain ⟨k,rfl⟩:∃ j,k=j+1:=⟨k-1,by omega⟩
    have e1:((k+1:Nat):Int)-1=(k:Int):=by omega
    rw [e1]
    clear e1
    have hX:=(HA.out.below hb')
    obtain ⟨b,o,rfl,hcx⟩:=hX.open_ (by omega)
    have hcx:=hcx k (by omega)
    have hxl:=hwx.out.get? k
    have hst:=hbuf'.cell k (by rw [List.length_append,HK.out,List.length_replicate]; omega)
    have hfz:=hbuf'.frozen k
    have HBUF:=Lib.hid hbuf'
    have hor:=or_two r (xs[k]?.getD 0) (by omega) hxl
    obtain ⟨t,ht⟩:∃ t,t=r*4294967296+xs[k]?.getD 0:=⟨_,rfl⟩
    rw [← ht] at hor
    have htb:t≤18446744073709551615:=by omega
    obtain ⟨q,hqd⟩:∃ q,q=t/d:=⟨_,rfl⟩
    obtain ⟨r',hrd⟩:∃ r',r'=t % d:=⟨_,rfl⟩
    have hq:((t:Int)/(d:Int))=(q:Int):=by rw [hqd]; rfl
    have hq2:((t:Int) % (d:Int))=(r':Int):=by rw [hrd]; rfl
    have hqb:q≤4294967295:=by have:=short_word r d (xs[k]?.getD 0) hr hxl; rw [← ht,← hqd] at this; omega
    have hrb:r'<d:=by rw [hrd]; exact Nat.mod_lt _ hd0
    have HQ:=Lib.hid hqd
    have HR:=Lib.hid hrd
    have HT:=Lib.hid ht
    have hk1:(0:Int)≤(k:Int):=by omega
    clear hX hbuf' ht hqd hrd
    go_wp2
    go_roundw
    case rel =>
     refine ⟨k,r',q::qs,by omega,hrb,by rw [hq2],rfl,?_,by rw [HQ.out,HR.out]; exact short_val xs qs k r d t (by have:=hla.out; omega) HV.out (by rw [HT.out]; rfl),?_,hb'.setCell (Nat.le_refl _) _⟩
     · rw [Hid,List.length_cons,HK.out]; omega
     · have:=HBUF.out.set k q _ (by omega) rfl
       rw [set_zero_append] at this
       exact this
    case measure=>simp [intOf]
  · obtain rfl:k=0:=by omega
    rw [List.replicate_zero,List.nil_append] at hbuf'
    have hw:=hbuf'.words (cap:=la) (by rw [HK.out]; omega) (by rw [HK.out]; omega)
    rw [HK.out,Nat.sub_zero] at hw
    have HW:=Lib.hid hw
    have hend:=Lib.hid (short_end xs qs r d hr (by have:=HV.out; rwa [List.drop_zero] at this))
    clear hbuf' hw
    go_wp2_with (go_at_call 382; refine (cut_any HW.out).mono ?_; rintro e w2 ⟨rfl,rfl⟩)
    go_ret2
    refine ⟨.slice (some ⟨w.heap.size,0,none⟩) (trim qs).length la,?_,?_,hb'⟩
    · rw [← hend.out.2]; rfl
    · rw [← dig_of qs _ HW.out.1 hend.out.1]
      exact HW.out.trim_
theorem right_any {A:Option Addr} {la ca:Nat} {xs:List Nat} {w:World} (hx:Words w (.slice A la ca) xs) (h1:la≤17179869184) (n:Nat) (hn:n≤1099511627776) :
  Calls Tryz.prog 389 #[.slice A la ca,.int .i64 (n:Int)] w fun e w'=>∃ v,e=.returned v∧Words w' v (dig (val xs/2^n))∧Below w.heap.size w w':=by
 have hla:=Lib.hid hx.len.1
 have hlc:=hx.len.2
 by_cases h0:la≤n/32
 · have HE:=Lib.hid (shr_none xs n hx.1 (by rw [← hla.out]; exact h0))
   have h0':(la:Int)≤(n:Int)/32:=by omega
   clear hx
   go_enter Tryz.func389,Tryz.ntmps389
   go_wp2
   go_ret
   refine ⟨_,rfl,?_,Below.refl _ _⟩
   rw [HE.out,dig_zero]
   exact Words.nil w
 · have h0':(n:Int)/32<(la:Int):=by omega
   obtain ⟨s,hs⟩:∃ s,s=n % 32:=⟨_,rfl⟩
   have hs32:s<32:=by omega
   have hsi:(n:Int) % 32=(s:Int):=by omega
   obtain ⟨q,hq⟩:∃ q,q=n/32:=⟨_,rfl⟩
   have hqi:(n:Int)/32=(q:Int):=by omega
   have hqla:q<la:=by omega
   have HE:=shr_words xs n hx.1 (by rw [← hla.out]; omega)
   rw [← hs,← hq] at HE
   have hd:=Words.drop (xs:=xs) (by have:=hx; rw [hla.out] at this; exact this) q (by rw [← hla.out]; omega)
   rw [← hla.out] at hd
   obtain ⟨b,o,rfl,_⟩:=hx.open_ (by omega)
   have hadd:(Option.map (fun x:Addr=>x.add q) (some ⟨b,o,none⟩):Option Addr)=some ⟨b,o+q,none⟩:=by
    simp only [Option.map_some,Addr.add]
    split
    · rename_i h; subst h; rfl
    · rfl
   rw [hadd] at hd
   have HD:=Lib.hid hd
   have hwy:=Lib.hid hd.1
   have hly:=Lib.hid hd.len.1
   have HE2:=Lib.hid HE
   obtain ⟨ys,hys⟩:∃ ys,ys=xs.drop q:=⟨_,rfl⟩
   rw [← hys] at HD hwy hly HE2
   clear hx hadd hd HE hs hq hys h0 h0'
   go_enter Tryz.func389,Tryz.ntmps389
   go_wp2_with (at_make; refine wpList_make_words rfl _ _ rfl _ _ _ _ (la-q) (la-q) rfl rfl (by omega) (by omega) (by omega) (by omega) ?_)
   intro w1 hbuf hb1 hz1
   have HZ:=Lib.hid hz1
   clear hz1
   go_wp2
   go_loopw [23] (fun i wr=>∃ (k:Nat),k≤la-q∧i=.int .i64 (k:Int)∧Buf wr w.heap.size ((shrL s ys).take k++List.replicate (la-q-k) 0)∧Below w.heap.size w wr) (fun i _=>la-q-(intOf i).toNat)
   case atStart=>exact ⟨0,by omega,rfl,by simpa using hbuf,hb1⟩
   case round =>
    obtain ⟨k,hk,rfl,hbuf',hb'⟩:=hrel
    have hlt:=hb'.size
    have hblt:=hbuf'.lt
    clear hbuf hb1 HZ
    have hkl:((shrL s ys).take k).length=k:=by rw [List.length_take,shrL_length,← hly.out]; omega
    by_cases hk1:k<la-q
    · have hki:(k:Int)<((la-q:Nat):Int):=by omega
      have hX:=(HD.out.below hb')
      obtain ⟨b',o',he',hcx⟩:=hX.open_ (by omega)
      injection he' with he'
      injection he' with e1 e2 _
      subst e1 e2
      have hcx1:=hcx k (by omega)
      have hxl:=hwy.out.get? k
      have hst:=hbuf'.cell k (by rw [List.length_append,hkl,List.length_replicate]; omega)
      have hfz:=hbuf'.frozen k
      have HBUF:=Lib.hid hbuf'
      have HKL:=Lib.hid hkl
      clear hX hbuf' hkl
      by_cases hk2:k+1<la-q
      · have hki2:(k:Int)+1<((la-q:Nat):Int):=by omega
        have hcx2:=hcx (k+1) hk2
        have hxl2:=hwy.out.get? (k+1)
        have hor:=or_two' (ys[k+1]?.getD 0) (ys[k]?.getD 0) hxl2 hxl
        obtain ⟨t,ht⟩:∃ t,t=ys[k+1]?.getD 0*4294967296+ys[k]?.getD 0:=⟨_,rfl⟩
        rw [← ht] at hor
        have htb:t≤18446744073709551615:=by omega
        obtain ⟨u,hu⟩:∃ u,u=t/2^s:=⟨_,rfl⟩
        have hui:(t:Int)/2^s=(u:Int):=by rw [hu,Int.natCast_ediv,Int.natCast_pow]; rfl
        have HU:=Lib.hid hu
        have HT:=Lib.hid ht
        clear hcx hu ht
        go_wp2
        go_roundw
        case rel =>
         refine ⟨k+1,by omega,rfl,?_,hb'.setCell (Nat.le_refl _) _⟩
         have h:=HBUF.out.push HKL.out (by omega) (u % 4294967296) ((u:Int) % 4294967296) (by omega) (by omega)
         rw [shrL_take s ys k (by rw [← hly.out]; exact hk1)]
         have e:(ys.getD k 0+4294967296*ys.getD (k+1) 0)/2^s=u:=by rw [HU.out,HT.out,Nat.add_comm,Nat.mul_comm]; rfl
         rw [e,show la-q-(k+1)=la-q-k-1 from by omega]
         exact h
        case measure=>simp [intOf]; omega
      · have hki2:¬ (k:Int)+1<((la-q:Nat):Int):=by omega
        have hy0:ys.getD (k+1) 0=0:=getD_out (by rw [← hly.out]; omega)
        have HY0:=Lib.hid hy0
        obtain ⟨u,hu⟩:∃ u,u=ys[k]?.getD 0/2^s:=⟨_,rfl⟩
        have hui:((ys[k]?.getD 0:Nat):Int)/2^s=(u:Int):=by rw [hu,Int.natCast_ediv,Int.natCast_pow]; rfl
        have HU:=Lib.hid hu
        clear hcx hu hy0
        go_wp2
        go_roundw
        case rel =>
         refine ⟨k+1,by omega,rfl,?_,hb'.setCell (Nat.le_refl _) _⟩
         have h:=HBUF.out.push HKL.out (by omega) (u % 4294967296) ((u:Int) % 4294967296) (by omega) (by omega)
         rw [shrL_take s ys k (by rw [← hly.out]; exact hk1)]
         have e:(ys.getD k 0+4294967296*ys.getD (k+1) 0)/2^s=u:=by rw [HU.out,HY0.out]; rfl
         rw [e,show la-q-(k+1)=la-q-k-1 from by omega]
         exact h
        case measure=>simp [intOf]; omega
    · obtain rfl:k=la-q:=by omega
      rw [Nat.sub_self,List.replicate_zero,List.append_nil,List.take_of_length_le (by rw [shrL_length,← hly.out]; exact Nat.le_refl _)] at hbuf'
      have hw:=hbuf'.words (cap:=la-q) (by rw [shrL_length,← hly.out]; omega) (by rw [shrL_length,← hly.out]; exact Nat.le_refl _)
      rw [shrL_length,← hly.out] at hw
      have HW:=Lib.hid hw
      clear hbuf' hw hkl
      go_wp2_with (go_at_call 382; refine (cut_any HW.out).mono ?_; rintro e w2 ⟨rfl,rfl⟩)
      go_ret
      refine ⟨_,rfl,?_,hb'⟩
      rw [← HE2.out,← val_shrL s ys hwy.out hs32,← dig_of _ _ (Wf_shrL s ys) rfl]
      exact HW.out.trim_
end
section
open Go.RowKit
def StepPost (w:World) (g:Nat) (pre us post:List Nat) (U V:Nat) (e:Ending) (w':World):Prop :=
 ∃ (q':Nat) (ms:List Nat),e=.returned (.int .u64 (q':Int))∧q'<4294967296∧ms.length=us.length∧val ms+q'*V=U∧val ms<V∧Buf w' g (pre++(ms++post))∧Only g w w'
set_option maxHeartbeats 1000000 in
theorem step_any {A:Option Addr} {n cv cu g j m:Nat} {vs pre us post:List Nat} {w:World} (hv:Words w (.slice A n cv) vs) (hu:Buf w g (pre++(us++post))) (hne:∀ b o,A=some ⟨b,o,none⟩→b≠g)
  (hj:pre.length=j) (hm:us.length=m) (hmn:m=n+1) (hcu:m≤cu) (hsz:n≤17179869184) (hjz:j≤34359738368) (q U V:Nat) (hq:q<4294967296) (hU:val us=U) (hV:val vs=V) (hq1:q*V≤U+V) (hq2:U<(q+1)*V) :
  Calls Tryz.prog 388 #[.slice (some ⟨g,j,none⟩) m cu,.slice A n cv,.int .u64 (q:Int)] w (StepPost w g pre us post U V):=by
 have hn:=Lib.hid hv.len.1
 have HA:=Lib.hid hv
 have hwv:=Lib.hid hv.1
 have hwu:Hid (Wf us):=Lib.hid hu.1.right.left
 have HJ:=Lib.hid hj
 have HM:=Lib.hid hm
 have HU:=Lib.hid hU
 have HV:=Lib.hid hV
 have HQ1:=Lib.hid hq1
 have HQ2:=Lib.hid hq2
 have HNE:=Lib.hid hne
 have HMN:=Lib.hid hmn
 have hmn1:m≤n+1:=by omega
 have hmn2:n+1≤m:=by omega
 clear hv hj hm hU hV hq1 hq2 hne hmn
 go_enter Tryz.func388,Tryz.ntmps388
 go_wp2
 go_loopw [7,8,14] (fun c b i wr=>∃ (k d e:Nat) (ms:List Nat),k≤m∧d<4294967296∧e≤1∧c=.int .u64 (d:Int)∧b=.int .u64 (e:Int)∧i=.int .i64 (k:Int)∧Hid (ms.length=k)∧Hid (k=m→d=0) ∧
  Hid (val ms+q*val (vs.take k)=val (us.take k)+4294967296^k*(e+d))∧Buf wr g (pre++((ms++us.drop k)++post))∧Only g w wr) (fun _ _ i _=>m-(intOf i).toNat)
 case atStart=>exact ⟨0,0,0,[],by omega,by omega,by omega,rfl,rfl,rfl,rfl,fun _=>rfl,by simp [Hid,val],by simpa using hu,Only.refl _ _⟩
 case round =>
  obtain ⟨k,d,e,ms,hk,hd,he,rfl,rfl,rfl,HK,HD0,HE,hbuf,ho⟩:=hrel
  have hgl:=hbuf.lt
  by_cases hk1:k<m
  · have hlen:=mid_len pre ms us post k HK.out (by rw [HM.out]; omega)
    have hst:=hbuf.cell (j+k) (by rw [hlen,HJ.out,HM.out]; omega)
    rw [← HJ.out,mid_get pre ms us post k HK.out (by rw [HM.out]; omega),HJ.out] at hst
    have hfz:=hbuf.frozen (j+k)
    have hul:=hwu.out.get? k
    have HBUF:=Lib.hid hbuf
    clear hlen hbuf hu
    by_cases hk2:k<n
    · have hY:=Only.words HA.out ho HNE.out
      obtain ⟨b2,o2,rfl,hcy⟩:=hY.open_ (by omega)
      have hcy:=hcy k hk2
      have hyl:=hwv.out.get? k
      obtain ⟨m',hm'⟩:∃ m',m'=q*vs[k]?.getD 0:=⟨_,rfl⟩
      have hmi:(q:Int)*((vs[k]?.getD 0:Nat):Int)=(m':Int):=by rw [hm']; exact (Int.natCast_mul _ _).symm
      have hc:=step_carry q (vs[k]?.getD 0) d hq hyl hd
      rw [← hm'] at hc
      obtain ⟨hc1,hc2⟩:=hc
      have hand:=and_mask (d+m') (by omega)
      obtain ⟨D1,D,z,b',hD1,hD,hDz,hDb,hz,hb',hzz⟩:=sub_word2 (us[k]?.getD 0) ((d+m') % 4294967296) e hul (by omega) he
      obtain ⟨lo,hlo⟩:∃ lo,lo=(d+m') % 4294967296:=⟨_,rfl⟩
      rw [← hlo] at hand hD1 hzz
      rw [Int.natCast_add] at hand
      have HMP:=Lib.hid hm'
      have HLO:=Lib.hid hlo
      have HZZ:=Lib.hid hzz
      clear hY hm' hlo hzz
      go_wp2
      go_roundw
      case rel =>
       refine ⟨k+1,(d+m')/4294967296,b',ms++[z],by omega,hc2,hb',by go_num,rfl,rfl,?_,fun h=>by exfalso; omega,?_,?_,ho.set _ _⟩
       · rw [Hid,List.length_append,HK.out]; rfl
       · exact step_val us vs ms k q d e z b' (d+m') HK.out HE.out (by rw [HMP.out]; rfl) (by rw [← HLO.out]; exact HZZ.out)
       · have h:=HBUF.out.set (j+k) z _ hz rfl
         rw [← HJ.out,mid_set pre ms us post k z HK.out (by rw [HM.out]; omega),HJ.out] at h
         exact h
      case measure=>simp [intOf]; omega
    · have hv0:vs.getD k 0=0:=getD_out (by have:=hn.out; omega)
      have HV0:=Lib.hid hv0
      have hand:=and_mask d (by omega)
      obtain ⟨D1,D,z,b',hD1,hD,hDz,hDb,hz,hb',hzz⟩:=sub_word2 (us[k]?.getD 0) (d % 4294967296) e hul (by omega) he
      obtain ⟨lo,hlo⟩:∃ lo,lo=d % 4294967296:=⟨_,rfl⟩
      rw [← hlo] at hand hD1 hzz
      have HLO:=Lib.hid hlo
      have HZZ:=Lib.hid hzz
      clear hlo hzz hv0
      go_wp2
      go_roundw
      case rel =>
       refine ⟨k+1,d/4294967296,b',ms++[z],by omega,by omega,hb',by go_num,rfl,rfl,?_,fun h=>by omega,?_,?_,ho.set _ _⟩
       · rw [Hid,List.length_append,HK.out]; rfl
       · exact step_val us vs ms k q d e z b' d HK.out HE.out (by rw [HV0.out]; rfl) (by rw [← HLO.out]; exact HZZ.out)
       · have h:=HBUF.out.set (j+k) z _ hz rfl
         rw [← HJ.out,mid_set pre ms us post k z HK.out (by rw [HM.out]; omega),HJ.out] at h
         exact h
      case measure=>simp [intOf]; omega
  · obtain rfl:k=m:=by omega
    have hd0:=HD0.out rfl
    have h1:=HE.out
    rw [val_take_all us _ (by rw [HM.out]; exact Nat.le_refl _),val_take_all vs _ (by rw [← hn.out]; omega),HU.out,HV.out,hd0,Nat.add_zero] at h1
    have h2:us.drop k=[]:=List.drop_of_length_le (by rw [HM.out]; exact Nat.le_refl _)
    rw [h2,List.append_nil] at hbuf
    have hwm:=Lib.hid hbuf.1.right.left
    have H1:=Lib.hid h1
    have HBUF:=Lib.hid hbuf
    clear h1 h2 hd0 hbuf hu
    by_cases he0:e=0
    · subst he0
      have hfin:=step_end0 us ms U V q k HU.out H1.out HQ2.out
      have HF:=Lib.hid hfin
      clear hfin
      go_wp2
      go_ret
      exact ⟨q,ms,rfl,hq,by rw [HK.out,HM.out],HF.out.1,HF.out.2,HBUF.out,ho⟩
    · obtain rfl:e=1:=by omega
      have hq1:1≤q:=by
       have h3:=val_lt ms hwm.out
       rw [HK.out] at h3
       have h4:=H1.out
       rcases Nat.eq_zero_or_pos q with h | h
       · rw [h] at h4; omega
       · exact h
      obtain ⟨wm,rfl⟩:∃ wm:World,wm=wr:=⟨_,rfl⟩
      have HO:=Lib.hid ho
      have hqi:(1:Int)≤(q:Int):=by omega
      clear ho
      go_wp2
      go_loopw [7,56] (fun c i wr=>∃ (k' d:Nat) (ns:List Nat),k'≤k∧d≤1∧c=.int .u64 (d:Int)∧i=.int .i64 (k':Int)∧Hid (ns.length=k') ∧
       Hid (val ns+4294967296^k'*d=val (ms.take k')+val (vs.take k'))∧Buf wr g (pre++((ns++ms.drop k')++post))∧Only g w wr) (fun _ i _=>k-(intOf i).toNat)
      case atStart=>exact ⟨0,0,[],by omega,by omega,rfl,rfl,rfl,by simp [Hid,val],by simpa using HBUF.out,HO.out⟩
      case round =>
       obtain ⟨k',d',ns,hk',hd',rfl,rfl,HK',HE',hbuf,ho⟩:=hrel
       have hgl:=hbuf.lt
       by_cases hk1:k'<k
       · have hlen:=mid_len pre ns ms post k' HK'.out (by rw [HK.out]; omega)
         have hst:=hbuf.cell (j+k') (by rw [hlen,HJ.out,HK.out]; omega)
         rw [← HJ.out,mid_get pre ns ms post k' HK'.out (by rw [HK.out]; omega),HJ.out] at hst
         have hfz:=hbuf.frozen (j+k')
         have hul:=hwm.out.get? k'
         have HBUF2:=Lib.hid hbuf
         clear hlen hbuf HBUF
         by_cases hk2:k'<n
         · have hY:=Only.words HA.out ho HNE.out
           obtain ⟨b2,o2,rfl,hcy⟩:=hY.open_ (by omega)
           have hcy:=hcy k' hk2
           have hyl:=hwv.out.get? k'
           clear hY
           go_wp2
           go_roundw
           case rel =>
            refine ⟨k'+1,(d'+ms.getD k' 0+vs.getD k' 0)/4294967296,ns++[(d'+ms.getD k' 0+vs.getD k' 0) % 4294967296],by omega,by simp only [List.getD]; omega,by simp only [List.getD]; go_num,rfl,?_,more_val _ _ _ _ _ _ HK'.out HE'.out rfl,?_,ho.set _ _⟩
            · rw [Hid,List.length_append,HK'.out]; rfl
            · have h:=HBUF2.out.set (j+k') ((d'+ms.getD k' 0+vs.getD k' 0) % 4294967296) _ (by omega) (by simp only [List.getD]; go_num)
              rw [← HJ.out,mid_set pre ns ms post k' _ HK'.out (by rw [HK.out]; omega),HJ.out] at h
              exact h
           case measure=>simp [intOf]; omega
         · have hv0:vs.getD k' 0=0:=getD_out (by have:=hn.out; omega)
           have HV0:=Lib.hid hv0
           clear hv0
           go_wp2
           go_roundw
           case rel =>
            refine ⟨k'+1,(d'+ms.getD k' 0+vs.getD k' 0)/4294967296,ns++[(d'+ms.getD k' 0+vs.getD k' 0) % 4294967296],by omega,by rw [HV0.out]; simp only [List.getD]; omega,by rw [HV0.out]; simp only [List.getD]; go_num,rfl,?_,more_val _ _ _ _ _ _ HK'.out HE'.out rfl,?_,ho.set _ _⟩
            · rw [Hid,List.length_append,HK'.out]; rfl
            · have h:=HBUF2.out.set (j+k') ((d'+ms.getD k' 0+vs.getD k' 0) % 4294967296) _ (by omega) (by rw [HV0.out]; try (simp only [List.getD]; try go_num))
              rw [← HJ.out,mid_set pre ns ms post k' _ HK'.out (by rw [HK.out]; omega),HJ.out] at h
              exact h
           case measure=>simp [intOf]; omega
       · obtain rfl:k'=k:=by omega
         have h1:=HE'.out
         rw [val_take_all ms _ (by rw [HK.out]; exact Nat.le_refl _),val_take_all vs _ (by rw [← hn.out]; omega),HV.out] at h1
         have h2:ms.drop k'=[]:=List.drop_of_length_le (by rw [HK.out]; exact Nat.le_refl _)
         rw [h2,List.append_nil] at hbuf
         have hVl:V<4294967296^k':=by
          have h3:=val_lt vs hwv.out
          rw [HV.out,← hn.out] at h3
          exact Nat.lt_of_lt_of_le h3 (Nat.pow_le_pow_right (by omega) (by omega))
         have hfin:=step_end1 ms ns U V q k' d' H1.out hwm.out HK.out hbuf.1.right.left HK'.out hd' h1 hVl HQ1.out
         have HF:=Lib.hid hfin
         have HBUF2:=Lib.hid hbuf
         clear hfin hbuf h1 h2 HBUF hVl
         go_wp2
         go_ret
         exact ⟨q-1,ns,by rw [Int.ofNat_sub (by omega)]; rfl,by omega,by rw [HK'.out,HM.out],HF.out.2.1,HF.out.2.2,HBUF2.out,ho⟩
end
section
open Go.RowKit
theorem cmpN_lt {n m:Nat} (h:n<m):cmpN n m = -1:=if_pos h
theorem cmpN_ge {n m:Nat} (h:m≤n):0≤cmpN n m:=by
 unfold cmpN
 split
 · omega
 · split<;>omega
theorem short_dig {A:Option Addr} {la ca a:Nat} {w:World} (hx:Words w (.slice A la ca) (dig a)) (d:Nat) (hd0:0<d) (hd:d<4294967296) :
  Calls Tryz.prog 373 #[.slice A la ca,.int .u32 (d:Int)] w fun e w'=>∃ v r,e=.returned (.tuple #[v,.int .u32 ((r:Nat):Int)])∧Hid (r=a % d)∧r<d∧Words w' v (dig (a/d))∧Below w.heap.size w w':=by
 refine (short_any hx (by rw [hx.len.1]; exact hx.2.1) d hd0 hd).mono fun e w' ⟨v,h1,h2,h3⟩=>?_
 rw [val_dig] at h1 h2
 exact ⟨v,_,h1,rfl,Nat.mod_lt _ hd0,h2,h3⟩
def DivPost (w:World) (a b:Nat) (e:Ending) (w':World):Prop :=
 ∃ v1 v2,e=.returned (.tuple #[v1,v2])∧Words w' v1 (dig (a/b))∧Words w' v2 (dig (a % b))∧Below w.heap.size w w'
set_option maxRecDepth 100000 in
theorem divide_small {A B:Option Addr} {la ca lb cb a b:Nat} {w:World} (hx:Words w (.slice A la ca) (dig a)) (hy:Words w (.slice B lb cb) (dig b)) (hlt:a<b) :
  Calls Tryz.prog 370 #[.slice A la ca,.slice B lb cb] w (DivPost w a b):=by
 have HX:=Lib.hid hx
 have HY:=Lib.hid hy
 have HL:=Lib.hid hlt
 clear hx hy hlt
 go_enter Tryz.func370,Tryz.ntmps370
 go_wp2_with (go_at_call 375; refine (under_any HX.out HY.out).mono ?_; rw [cmpN_lt HL.out]; rintro e w' ⟨rfl,k,rfl⟩)
 go_ret2
 refine ⟨.slice none 0 0,.slice A la ca,rfl,?_,?_,Below.drewN_ (Below.refl _ _) k⟩
 · rw [Nat.div_eq_of_lt HL.out,dig_zero]; exact Words.nil _
 · rw [Nat.mod_eq_of_lt HL.out]; exact HX.out.below (Below.drewN_ (Below.refl _ _) k)
set_option maxRecDepth 100000 in
theorem divide_word {A B:Option Addr} {la ca cb a b:Nat} {w:World} (hx:Words w (.slice A la ca) (dig a)) (hy:Words w (.slice B 1 cb) (dig b)) (hge:b≤a) :
  Calls Tryz.prog 370 #[.slice A la ca,.slice B 1 cb] w (DivPost w a b):=by
 have hl:=hy.len.1
 have hb0:0<b:=by
  rcases Nat.eq_zero_or_pos b with h | h
  · rw [h,dig_zero] at hl; simp at hl
  · exact h
 have hbd:(dig b).getD 0 0=b:=by
  have h1:=val_dig b
  match hd:dig b,hl with
  | [x],_=>rw [hd] at h1; simp [val] at h1; simpa using h1
 have hblt:b<4294967296:=by have:=dig_lt b; rw [← hl] at this; omega
 obtain ⟨bb,o,rfl,hc⟩:=hy.open_ (by omega)
 have hc:w.cell? ⟨bb,o,none⟩=some (.int .u32 (b:Int)):=by have:=hc 0 (by omega); rw [hbd] at this; exact this
 have hsz:=hx.2.1
 rw [← hx.len.1] at hsz
 have HX:=Lib.hid hx
 have HY:=Lib.hid hy
 have HC:=Lib.hid (cmpN_ge hge)
 obtain ⟨r,hr⟩:∃ r,r=cmpN a b:=⟨_,rfl⟩
 have HR:=Lib.hid hr
 have hr0:0≤r:=by rw [hr]; exact HC.out
 have hb1:0<b:=hb0
 clear hx hy hge hl hbd hr HC
 go_enter Tryz.func370,Tryz.ntmps370
 go_wp2_with (first
  | (go_at_call 375; refine (under_any HX.out HY.out).mono ?_; rw [← HR.out]; rintro e w' ⟨rfl,k,rfl⟩)
  | (go_at_call 373; refine (short_dig (HX.out.below (Below.drewN_ (Below.refl _ _) _)) b hb1 hblt).mono ?_; rintro e w' ⟨v,r2,rfl,hr2,hr2b,hv,hbel⟩))
 have hrl:r2<4294967296:=by omega
 have HV:=Lib.hid hv
 have HB:=Lib.hid hbel
 clear hv hbel
 go_wp2_with (go_at_call 382; refine (cut_any (words_one _ r2 _ hrl rfl)).mono ?_; rintro e w2 ⟨rfl,rfl⟩)
 go_ret2
 refine ⟨v,.slice (some ⟨w'.heap.size,0,none⟩) (trim [r2]).length 1,rfl,HV.out.below ((Below.refl _ _).alloc (Nat.le_refl _) _),?_,(((Below.drewN_ (Below.refl _ _) _).trans (HB.out.mono (by simp))).alloc (by have:=HB.out.size; simpa using this) _)⟩
 have h1:=(words_one w' r2 _ hrl rfl).trim_
 rw [← hr2.out,← dig_of [r2] r2 (Wf.cons hrl Wf.nil) (by simp [val])]
 exact h1
end
section
open Go.RowKit
set_option maxRecDepth 100000 in
set_option maxHeartbeats 16000000 in
theorem divide_long {A B:Option Addr} {la ca lb cb a b:Nat} {w:World} (hx:Words w (.slice A la ca) (dig a)) (hy:Words w (.slice B lb cb) (dig b)) (hge:b≤a) (hl2:2≤lb) (hla:la≤4294967296) :
  Calls Tryz.prog 370 #[.slice A la ca,.slice B lb cb] w (DivPost w a b):=by
 have hlb:=hy.len.1
 have hla0:=hx.len.1
 have hlab:lb≤la:=by rw [hlb,hla0]; exact dig_len_mono b a hge
 obtain ⟨t,ht⟩:∃ t,t=(dig b).getD (lb-1) 0:=⟨_,rfl⟩
 have ht32:t<4294967296:=by rw [ht]; exact (Wf_dig b).getD _
 have ht0:0<t:=by
  rcases Nat.eq_zero_or_pos t with h | h
  · exfalso
    have h1:=trim_take_pred (dig b) lb (by omega) (by omega) (by rw [← ht]; exact h)
    have h3:(dig b).take lb=dig b:=List.take_of_length_le (by omega)
    rw [h3,trim_dig] at h1
    have h2:=trim_length_le ((dig b).take (lb-1))
    rw [h1,List.length_take] at h2
    omega
  · exact h
 obtain ⟨bb,o,rfl,hc⟩:=hy.open_ (by omega)
 have hc:w.cell? ⟨bb,o+(lb-1),none⟩=some (.int .u32 (t:Int)):=by have:=hc (lb-1) (by omega); rw [← ht] at this; exact this
 have HX:=Lib.hid hx
 have HY:=Lib.hid hy
 have HLB:=Lib.hid hlb
 have HLA:=Lib.hid hla0
 have HT:=Lib.hid ht
 obtain ⟨r,hr⟩:∃ r,r=cmpN a b:=⟨_,rfl⟩
 have hr0:0≤r:=by rw [hr]; exact cmpN_ge hge
 have HR:=Lib.hid hr
 have HGE:=Lib.hid hge
 have hlb1:((lb:Int)==1)=false:=by rw [beq_eq_false_iff_ne]; omega
 have hlb2:(0:Int)≤(lb:Int)-1:=by omega
 clear hx hy hge hlb hla0 ht hr
 go_enter Tryz.func370,Tryz.ntmps370
 go_wp2_with (go_at_call 375; refine (under_any HX.out HY.out).mono ?_; rw [← HR.out]; rintro e w' ⟨rfl,kk,rfl⟩)
 go_loop [8,9] (fun i c=>∃ k T:Nat,k≤31∧i=.int .i64 (k:Int)∧c=.int .u32 (T:Int)∧T<4294967296∧0<T∧Hid (T=t*2^k)) (fun _ c=>(4294967296-intOf c).toNat)
 case atStart=>exact ⟨0,t,by omega,rfl,rfl,ht32,ht0,by simp [Hid]⟩
 case round =>
  obtain ⟨k,T,hk,rfl,rfl,hT,hT0,HTT⟩:=hrel
  by_cases hdone:T<2147483648
  · have hq:(((T:Int)/2147483648)==0)=true:=by rw [beq_iff_eq]; omega
    go_wp2
    go_round
    case rel =>
     refine ⟨k+1,T*2,?_,by go_num,by go_num,by omega,by omega,?_⟩
     · rcases Nat.lt_or_ge k 31 with h | h
       · omega
       · exfalso
         have h1:=HTT.out
         have h2:t*2^31≤t*2^k:=Nat.mul_le_mul_left _ (Nat.pow_le_pow_right (by omega) h)
         omega
     · rw [Hid,HTT.out,Nat.pow_succ,Nat.mul_assoc]
    case measure=>simp [intOf]; omega
  · have hq:(((T:Int)/2147483648)==0)=false:=by rw [beq_eq_false_iff_ne]; omega
    have HN:=Lib.hid (norm_top b lb t k HLB.out.symm (by omega) HT.out.symm (by rw [← HTT.out]; omega) (by rw [← HTT.out]; exact hT) hk)
    have HXd:=Lib.hid (HX.out.below (Below.drewN_ (Below.refl _ _) kk))
    have HYd:=Lib.hid (HY.out.below (Below.drewN_ (Below.refl _ _) kk))
    clear hc hq
    go_wp2_with fail
    refine (left_any HYd.out (by omega) k (by omega)).mono ?_
    rintro e w1 ⟨vv,rfl,hvv,hb1⟩
    rw [val_dig] at hvv
    obtain ⟨Av,nv,cv,rfl⟩:=hvv.form
    have hnv:nv=lb:=by rw [hvv.len.1]; exact HN.out.1
    subst hnv
    have HVV:=Lib.hid hvv
    have HB1:=Lib.hid hb1
    clear hvv hb1
    go_wp2_with (at_make; refine wpList_make_words rfl _ _ rfl _ _ _ _ (la+1) (la+1) rfl rfl (by omega) (by omega) (Nat.le_refl _) (by omega) ?_)
    intro w2 hbuf hb2 hz2
    have HBU:=Lib.hid hbuf
    have HB2:=Lib.hid hb2
    clear hz2 hbuf hb2
    go_wp2_with fail
    refine (left_any ((HXd.out.below HB1.out).below HB2.out) (by omega) k (by omega)).mono ?_
    rintro e w3 ⟨va,rfl,hva,hb3⟩
    rw [val_dig] at hva
    obtain ⟨Aa,na,ca',rfl⟩:=hva.form
    have hna:na≤la+1:=by
     rw [hva.len.1]
     refine dig_len_le _ _ ?_
     have h1:=dig_lt a
     rw [← HLA.out] at h1
     have h2:2^k≤2^32:=Nat.pow_le_pow_right (by omega) (by omega)
     rw [Nat.pow_succ]
     exact Nat.mul_lt_mul_of_lt_of_le h1 h2 (by omega)
    obtain ⟨gu,hgu⟩:∃ gu,gu=w1.heap.size:=⟨_,rfl⟩
    rw [← hgu] at HBU
    rw [← hgu]
    have HBU3:=Lib.hid (HBU.out.on hb3)
    have HVA:=Lib.hid hva
    have HB3:=Lib.hid hb3
    have HGU:=Lib.hid hgu
    clear hva hb3 hgu
    go_wp2_with (with_reducible refine wpList_copy_words rfl (.tmp 59) (.tmp 62) rfl gu (la+1) (la+1) _ rfl HBU3.out (by simp) Aa na ca' _ rfl HVA.out hna gu w3 (Below.refl _ _) (Nat.le_refl _) ?_)
    intro w4 hbu4 hb4
    obtain ⟨us0,hus⟩:∃ us0,us0=dig (a*2^k)++List.replicate (la+1-na) 0:=⟨_,rfl⟩
    rw [← hus] at hbu4
    have hus0:val us0=a*2^k:=by rw [hus,val_append,val_zeros,val_dig,Nat.mul_zero,Nat.add_zero]
    have hul0:us0.length=la+1:=by rw [hus,List.length_append,List.length_replicate,← HVA.out.len.1]; omega
    have HUS:=Lib.hid hus0
    have HUL:=Lib.hid hul0
    have HBU4:=Lib.hid hbu4
    have HB4:=Lib.hid hb4
    clear hus hbu4 hb4 hus0 hul0
    go_wp2_with (at_make; refine wpList_make_words rfl _ _ rfl _ _ _ _ (la+1-nv) (la+1-nv) rfl rfl (by omega) (by omega) (Nat.le_refl _) (by omega) ?_)
    intro w5 hbq hb5 hz5
    obtain ⟨gq,hgq⟩:∃ gq,gq=w4.heap.size:=⟨_,rfl⟩
    rw [← hgq] at hbq
    rw [← hgq]
    have HGQ:=Lib.hid hgq
    have HBQ:=Lib.hid hbq
    have HB5:=Lib.hid hb5
    clear hgq hz5 hbq hb5
    have hb45:Below w.heap.size w w5:=by
     have s1:=HB1.out.size
     have s2:=HB2.out.size
     have s3:=HB3.out.size
     have s4:=HB4.out.size
     have e0:(w.drewN kk).heap.size=w.heap.size:=rfl
     rw [e0] at s1
     refine ((((Below.drewN_ (Below.refl _ _) kk).trans HB1.out).trans (HB2.out.mono s1)).trans (HB3.out.mono (by omega))).trans ((HB4.out.mono ?_).trans (HB5.out.mono (by omega)))
     rw [HGU.out]; exact s1
    have hguq:gu<gq:=by rw [HGQ.out]; exact HBU4.out.lt
    have hBgu:w.heap.size≤gu:=by rw [HGU.out]; exact HB1.out.size
    have HNE:Hid (∀ b o,Av=some ⟨b,o,none⟩→b<gu):=by
     intro b o hA; rw [HGU.out]; exact HVV.out.lt (by omega) b o hA
    have HVV5:Hid (Words w5 (.slice Av nv cv) (dig (b*2^k))):=(((HVV.out.below HB2.out).below HB3.out).under HB4.out HNE.out).below HB5.out
    have HBU5:=Lib.hid (HBU4.out.on HB5.out)
    have HN1:=Lib.hid HN.out.1
    have HN2:=Lib.hid HN.out.2.1
    obtain ⟨vs,hvs⟩:∃ vs,vs=dig (b*2^k):=⟨_,rfl⟩
    have hwv:Hid (Wf vs):=by rw [hvs]; exact Wf_dig _
    have hvv:Hid (val vs=b*2^k):=by rw [hvs]; exact val_dig _
    have hD:=Div.first us0 a (b*2^k) k la nv (by have:=dig_lt a; rw [← HLA.out] at this; exact this) HUS.out HUL.out (by omega) hlab hk HN.out.2.2
    have HD:=Lib.hid hD
    have HVlt:Hid (b*2^k<4294967296^nv):=by
     have:=val_lt vs hwv.out
     rw [hvv.out,hvs,HN1.out] at this
     exact this
    rw [← hvs] at HVV5 HN1 HN2
    have HBv:=Lib.hid hb45
    have hwsz:=HBv.out.size
    clear hD hvs hb45 HX HY HXd HYd HVV HBU HBU3 HBU4 HVA HB1 HB2 HB3 HB4 HB5 HN HT HTT hc HR
    go_wp2
    go_loopw [13] (fun i wr=>∃ (j:Nat) (us qs:List Nat),j≤la+1-nv∧i=.int .i64 ((j:Int)-1)∧Hid (Div us0 us qs (b*2^k) j (la+1) nv)∧Hid (Buf wr gu us)∧Hid (Buf wr gq qs)∧Hid (Words wr (.slice Av nv cv) vs)∧Hid (Below w.heap.size w wr)) (fun i _=>(intOf i+1).toNat)
    case atStart=>exact ⟨la+1-nv,us0,List.replicate (la+1-nv) 0,by omega,by go_num,HD,HBU5,HBQ,HVV5,HBv⟩
    case round =>
     obtain ⟨j,us,qs,hj,rfl,hd,hbu,hbq,hvw,hbel⟩:=hrel
     clear HD HBU5 HBQ HVV5 HBv
     by_cases hj0:0<j
     · obtain ⟨j,rfl⟩:∃ j',j=j'+1:=⟨j-1,by omega⟩
       have e1:((j+1:Nat):Int)-1=(j:Int):=by omega
       rw [e1]
       clear e1
       have hlu:=Lib.hid hd.out.lu
       have hlq:=Lib.hid hd.out.lq
       have hwu:=Lib.hid hbu.out.1
       have HW:=Lib.hid (hd.out.window hwu.out HVlt.out (by omega))
       obtain ⟨mid,hmid⟩:∃ mid,mid=(us.drop j).take (nv+1):=⟨_,rfl⟩
       obtain ⟨x0,hx0⟩:∃ x,x=us.getD (j+nv) 0:=⟨_,rfl⟩
       obtain ⟨x1,hx1⟩:∃ x,x=us.getD (j+nv-1) 0:=⟨_,rfl⟩
       obtain ⟨x2,hx2⟩:∃ x,x=us.getD (j+nv-2) 0:=⟨_,rfl⟩
       obtain ⟨v1,hv1⟩:∃ x,x=vs.getD (nv-1) 0:=⟨_,rfl⟩
       obtain ⟨v2,hv2⟩:∃ x,x=vs.getD (nv-2) 0:=⟨_,rfl⟩
       obtain ⟨bv,ov,rfl,hcv⟩:=hvw.out.open_ (by omega)
       have c0:=hbu.out.cell (j+nv) (by rw [hlu.out]; omega)
       have c1:=hbu.out.cell (j+nv-1) (by rw [hlu.out]; omega)
       have c2:=hbu.out.cell (j+nv-2) (by rw [hlu.out]; omega)
       have c3:=hcv (nv-1) (by omega)
       have c4:=hcv (nv-2) (by omega)
       rw [← hx0] at c0
       rw [← hx1] at c1
       rw [← hx2] at c2
       rw [← hv1] at c3
       rw [← hv2] at c4
       have b0:x0<4294967296:=by rw [hx0]; exact hwu.out.getD _
       have b1:x1<4294967296:=by rw [hx1]; exact hwu.out.getD _
       have b2:x2<4294967296:=by rw [hx2]; exact hwu.out.getD _
       have b3:v1<4294967296:=by rw [hv1]; exact hwv.out.getD _
       have b4:v2<4294967296:=by rw [hv2]; exact hwv.out.getD _
       have b3':2147483648≤v1:=by rw [hv1]; exact HN2.out
       have hml:mid.length=nv+1:=by rw [hmid]; exact HW.out.2.2.1
       have hwm:Wf mid:=by rw [hmid]; exact (hwu.out.drop _).take _
       have mget:∀ i,i≤nv→mid.getD i 0=us.getD (j+i) 0:=by
        intro i hi
        rw [hmid]
        simp only [List.getD]
        rw [List.getElem?_take_of_lt (by omega),List.getElem?_drop]
       have hK:=knu_of mid vs nv hml HN1.out hl2 hwm hwv.out HN2.out (by rw [hvv.out,hmid]; exact HW.out.2.2.2.2.2)
       rw [mget nv (Nat.le_refl _),mget (nv-1) (by omega),mget (nv-2) (by omega),← Nat.add_sub_assoc (by omega),← Nat.add_sub_assoc (by omega),← hx0,← hx1,← hx2,← hv1,← hv2,hvv.out] at hK
       have HK:=Lib.hid hK
       obtain ⟨top,htop⟩:∃ top,top=x0*4294967296+x1:=⟨_,rfl⟩
       have hor:=or_two x0 x1 b0 b1
       rw [← htop] at hor
       rw [← htop] at HK
       have htb:top≤18446744073709551615:=by omega
       obtain ⟨q0,hq0⟩:∃ q,q=top/v1:=⟨_,rfl⟩
       obtain ⟨r0,hr0'⟩:∃ r,r=top % v1:=⟨_,rfl⟩
       have hqi:(top:Int)/(v1:Int)=(q0:Int):=by rw [hq0]; rfl
       have hri:(top:Int) % (v1:Int)=(r0:Int):=by rw [hr0']; rfl
       have hv1i:(1:Int)≤(v1:Int):=by omega
       have H0:Hid (q0*v1+r0=top∧val mid<(q0+1)*(b*2^k)∧r0<4294967296):=by
        refine ⟨by rw [hq0,hr0',Nat.mul_comm]; exact Nat.div_add_mod top v1,by rw [hq0]; exact HK.out.first,?_⟩
        have:=Nat.mod_lt top (show 0<v1 by omega)
        omega
       have i1:(0:Int)≤(j:Int)+(nv:Int):=by omega
       have i2:(j:Int)+(nv:Int)<(la:Int)+1:=by omega
       have i3:(0:Int)≤(j:Int)+(nv:Int)-1:=by omega
       have i4:(j:Int)+(nv:Int)-1<(la:Int)+1:=by omega
       have i5:(0:Int)≤(nv:Int)-1:=by omega
       have hq0b:q0≤8589934592:=by
        rw [hq0]
        refine Nat.le_trans (Nat.div_le_div_left b3' (by omega)) ?_
        omega
       have HTOP:=Lib.hid htop
       have HMID:=Lib.hid hmid
       have HMG:=Lib.hid mget
       clear hcv hx0 hx1 hx2 hv1 hv2 hwm mget hK htop hq0 hr0' hmid
       obtain ⟨wo,rfl⟩:∃ wo:World,wo=wr:=⟨_,rfl⟩
       go_wp2
       go_quiet (fail)
       go_wp2
       go_quiet (fail)
       go_upto_block 5 with fail
       go_cut [15] (fun q wc=>∃ (q':Nat),q'<4294967296∧q=.int .u64 (q':Int)∧Hid (q'*(b*2^k)≤val mid+b*2^k∧val mid<(q'+1)*(b*2^k))∧∃ d,wc=wo.drewN d)
       case first =>
        clear i1 i2
        have i5:(0:Int)≤(nv:Int)-2:=by omega
        have i6:(0:Int)≤(j:Int)+(nv:Int)-2:=by omega
        have i7:(j:Int)+(nv:Int)-2<(la:Int)+1:=by omega
        have hnvb:nv≤4294967296:=by omega
        have hjb:j≤4294967296:=by omega
        clear hla ht32 ht0 HLA hr0 HGE hk hT hT0 hdone hlab HLB hlb1 hlb2 hna HGU HUS HUL hguq hBgu HVlt hwsz hd hj hj0 hlu hlq hwu HW c0 c1 b0 b1 hml HTOP HMID HMG i3 i4 hbu hbq hbel hvw HNE
        go_wp2
        go_loopw [15,16] (fun qv rv wr=>∃ (q r:Nat),qv=.int .u64 (q:Int)∧rv=.int .u64 (r:Int)∧r<4294967296∧q≤8589934592∧Hid (q*v1+r=top∧val mid<(q+1)*(b*2^k))∧∃ d,wr=wo.drewN d) (fun qv _ _=>(intOf qv).toNat)
        case atStart=>exact ⟨q0,r0,rfl,by rw [hri],H0.out.2.2,hq0b,⟨H0.out.1,H0.out.2.1⟩,by first | exact ⟨_,rfl⟩ | exact ⟨_,World.drewN_drewN ..⟩⟩
        case round =>
         obtain ⟨q,r',rfl,rfl,hrb,hqb,HQ,d,rfl⟩:=hrel
         clear hqi hri H0 hor htb hq0b
         by_cases hA:4294967296≤q
         · have hq1:val mid<q*(b*2^k):=HK.out.down HQ.out.1 (.inl hA)
           have hqe:(q-1)*v1+(r'+v1)=top:=by
            have h1:=HQ.out.1
            obtain ⟨q',rfl⟩:∃ q',q=q'+1:=⟨q-1,by omega⟩
            rw [Nat.add_mul] at h1
            simp only [Nat.add_sub_cancel]
            omega
           have HQ1:=Lib.hid hq1
           have HQE:=Lib.hid hqe
           have hAi:decide ((4294967296:Int)≤(q:Int))=true:=by rw [decide_eq_true_eq]; omega
           clear hq1 hqe
           go_wp2
           go_quiet (fail)
           have hqq:1≤q:=by omega
           clear hAi hA
           by_cases hB:4294967296≤r'+v1
           · have hBi:(4294967296:Int)≤(r':Int)+(v1:Int):=by omega
             have HO:=Lib.hid (HK.out.out HQE.out hB)
             go_wp2_with fail
             go_meet
             exact ⟨q-1,HO.out.1,by go_num,⟨HK.out.done HQE.out HO.out.1 HO.out.2,by rw [Nat.sub_add_cancel (by omega)]; exact HQ1.out⟩,by first | exact ⟨_,rfl⟩ | exact ⟨_,World.drewN_drewN ..⟩⟩
           · have hBi:¬ (4294967296:Int)≤(r':Int)+(v1:Int):=by omega
             go_wp2
             go_roundw
             case rel=>exact ⟨q-1,r'+v1,by go_num,by go_num,by omega,by omega,⟨HQE.out,by rw [Nat.sub_add_cancel (by omega)]; exact HQ1.out⟩,by first | exact ⟨_,rfl⟩ | exact ⟨_,World.drewN_drewN ..⟩⟩
             case measure=>simp [intOf]; omega
         · have hAi:decide ((4294967296:Int)≤(q:Int))=false:=by rw [decide_eq_false_iff_not]; omega
           obtain ⟨m,hm⟩:∃ m,m=q*v2:=⟨_,rfl⟩
           have hmb:m≤18446744065119617025:=by rw [hm]; exact mul_word _ _ (by omega) b4
           have hmi:(q:Int)*(v2:Int)=(m:Int):=by rw [hm]; exact (Int.natCast_mul _ _).symm
           have hor2:=or_two r' x2 hrb b2
           obtain ⟨s,hs⟩:∃ s,s=r'*4294967296+x2:=⟨_,rfl⟩
           rw [← hs] at hor2
           have HM:=Lib.hid hm
           have HS:=Lib.hid hs
           clear hm hs
           by_cases hC:s<m
           · have hCi:decide ((s:Int)<(m:Int))=true:=by rw [decide_eq_true_eq]; omega
             have hq1:val mid<q*(b*2^k):=HK.out.down HQ.out.1 (.inr (by rw [← HS.out,← HM.out]; exact hC))
             have hq0:1≤q:=by
              rcases Nat.eq_zero_or_pos q with h | h
              · rw [h,Nat.zero_mul] at hq1; omega
              · exact h
             have hqe:(q-1)*v1+(r'+v1)=top:=by
              have h1:=HQ.out.1
              obtain ⟨q',rfl⟩:∃ q',q=q'+1:=⟨q-1,by omega⟩
              rw [Nat.add_mul] at h1
              simp only [Nat.add_sub_cancel]
              omega
             have HQ1:=Lib.hid hq1
             have HQE:=Lib.hid hqe
             clear hq1 hqe
             go_wp2
             go_quiet (fail)
             have hqq:q≤4294967295:=by omega
             clear HM HS hor2 hmi hmb hCi hAi hA hC hqb
             by_cases hB:4294967296≤r'+v1
             · have hBi:(4294967296:Int)≤(r':Int)+(v1:Int):=by omega
               have HO:=Lib.hid (HK.out.out HQE.out hB)
               go_wp2_with fail
               go_meet
               exact ⟨q-1,HO.out.1,by go_num,⟨HK.out.done HQE.out HO.out.1 HO.out.2,by rw [Nat.sub_add_cancel (by omega)]; exact HQ1.out⟩,by first | exact ⟨_,rfl⟩ | exact ⟨_,World.drewN_drewN ..⟩⟩
             · have hBi:¬ (4294967296:Int)≤(r':Int)+(v1:Int):=by omega
               go_wp2
               go_roundw
               case rel=>exact ⟨q-1,r'+v1,by go_num,by go_num,by omega,by omega,⟨HQE.out,by rw [Nat.sub_add_cancel (by omega)]; exact HQ1.out⟩,by first | exact ⟨_,rfl⟩ | exact ⟨_,World.drewN_drewN ..⟩⟩
               case measure=>simp [intOf]; omega
           · have hCi:decide ((s:Int)<(m:Int))=false:=by rw [decide_eq_false_iff_not]; omega
             have HD2:=Lib.hid (HK.out.done HQ.out.1 (by omega) (by rw [← HS.out,← HM.out]; omega))
             go_wp2
             go_quiet (fail)
             go_wp2_with fail
             go_meet
             exact ⟨q,by omega,rfl,⟨HD2.out,HQ.out.2⟩,by first | exact ⟨_,rfl⟩ | exact ⟨_,World.drewN_drewN ..⟩⟩
       case rest =>
        obtain ⟨q,hq,rfl,HQ,d,rfl⟩:=hcut
        clear hqi hri H0 hor hq0b htb
        clear c0 c1 c2 c3 c4 b0 b1 b2 b3 b4 b3' HK HTOP HMG hv1i i1 i2 i3 i4 i5
        go_wp2_with fail
        have hbud:Buf (wo.drewN d) gu (us.take j++(mid++us.drop (j+nv+1))):=by
         rw [HMID.out,← HW.out.1]
         exact hbu.out
        have hvwd:Words (wo.drewN d) (.slice (some ⟨bv,ov,none⟩) nv cv) vs:=hvw.out.below (Below.drewN_ (Below.refl _ _) d)
        refine (step_any (j:=j) hvwd hbud (fun b o hA=>by have:=HNE.out b o hA; omega) HW.out.2.1 (by omega) (by omega) (by omega) (by omega) (by omega) q (val mid) (b*2^k) hq rfl hvv.out HQ.out.1 HQ.out.2).mono ?_
        rintro e w6 ⟨q',ms,rfl,hq',hml',hvq,hms,hbu6,ho6⟩
        have hnx:=Lib.hid (hd.out.next (q:=q') (ms:=ms) hwu.out HVlt.out (by omega) HUL.out (by rw [hml',HMID.out]) (by rw [← HMID.out]; exact hvq) hms)
        have hbq6:=(show Buf (wo.drewN d) gq qs from hbq.out).only ho6 (by omega)
        have hst:=hbq6.cell j (by rw [hlq.out]; omega)
        have hfz:=hbq6.frozen j
        have hgq6:=hbq6.lt
        have HBU6:=Lib.hid hbu6
        have HBQ6:=Lib.hid hbq6
        have HVW6:=Lib.hid (Only.words hvwd ho6 (fun b o hA=>by have:=HNE.out b o hA; omega))
        have HBEL6:=Lib.hid ((Below.drewN_ hbel.out d).trans (ho6.below hBgu hbel.out.size))
        clear hbud hvwd hbu6 hbq6 ho6 hvq hms hml' hbu hbq hvw hbel hd HW HQ HMID hml
        go_wp2
        go_roundw
        case rel =>
         have ho:Only gq w6 (w6.setCell ⟨gq,j,none⟩ (.int .u32 (q':Int))):=(Only.refl gq w6).set j _
         exact ⟨j,_,_,by omega,rfl,hnx,HBU6.out.only ho (by omega),HBQ6.out.set j q' _ hq' rfl,Only.words HVW6.out ho (fun b o hA=>by have:=HNE.out b o hA; omega),HBEL6.out.setCell (show w.heap.size≤gq by omega) _⟩
        case measure=>simp [intOf]
     · obtain rfl:j=0:=by omega
       have hlast:=hd.out.last HUS.out hbu.out.1 HVlt.out (by omega)
       have HLAST:=Lib.hid hlast
       have hlu:=Lib.hid hd.out.lu
       have hlq:=Lib.hid hd.out.lq
       have hbw:=hbu.out.words (cap:=la+1) (by rw [hlu.out]; omega) (by rw [hlu.out]; exact Nat.le_refl _)
       have hbc:=Words.cut (xs:=us) (by rw [hlu.out] at hbw ⊢; exact hbw) nv (by rw [hlu.out]; omega)
       have hqw:=hbq.out.words (cap:=la+1-nv) (by rw [hlq.out]; omega) (by rw [hlq.out]; exact Nat.le_refl _)
       rw [hlq.out] at hqw
       have HBC:Hid (Words wr.drew _ _):=Lib.hid (show Words wr.drew _ _ from hbc)
       have HQW:Hid (Words wr.drew _ _):=Lib.hid (show Words wr.drew _ _ from hqw)
       have hni:(nv:Int)≤(la:Int)+1:=by omega
       clear hlast hbw hbc hqw
       obtain ⟨wr',hwr'⟩:∃ w',w'=wr:=⟨_,rfl⟩
       go_wp2
       refine wp_region_acts 7 (fun w'=>w'=wr.drew) (fun _ _=>True) (fun i _ v=>match i with
        | 0=>v=.slice (some ⟨gq,0,none⟩) (la+1-nv) (la+1-nv)
        | 1=>v=.slice (some ⟨gq,0,none⟩) (trim qs).length (la+1-nv)
        | 2=>v=.slice (some ⟨gu,0,none⟩) (la+1) (la+1)
        | 3=>v=.int .i64 (nv:Int)
        | 4=>v=.slice (some ⟨gu,0,none⟩) nv (la+1)
        | 5=>v=.slice (some ⟨gu,0,none⟩) (trim (us.take nv)).length (la+1)
        | _=>v=.int .i64 (k:Int)) (by kernel_rfl) (by kernel_rfl) (by kernel_rfl) rfl (fun _ _=>trivial) (fun _ _ _ _ _ _ _ h=>h) ⟨?_,?_,?_,?_,?_,?_,?_,trivial⟩ ?_
       · intro a' w' hag hC hd K hK
         subst hC
         have e:a'.tmps.getD 4 undef=.slice (some ⟨gq,0,none⟩) (la+1-nv) (la+1-nv):=hag 4 rfl
         go_step
         exact hK _ _ rfl trivial rfl
       · intro a' w' hag hC hd K hK
         subst hC
         have e:a'.tmps.getD 163 undef=.slice (some ⟨gq,0,none⟩) (la+1-nv) (la+1-nv):=hd.1
         go_step
         refine (cut_any HQW.out).mono ?_
         rintro e w'' ⟨rfl,rfl⟩
         exact hK _ _ rfl trivial rfl
       · intro a' w' hag hC hd K hK
         subst hC
         have e:a'.tmps.getD 11 undef=.slice (some ⟨gu,0,none⟩) (la+1) (la+1):=hag 11 rfl
         go_step
         exact hK _ _ rfl trivial rfl
       · intro a' w' hag hC hd K hK
         subst hC
         have e:a'.tmps.getD 12 undef=.int .i64 (nv:Int):=hag 12 rfl
         go_step
         exact hK _ _ rfl trivial rfl
       · intro a' w' hag hC hd K hK
         subst hC
         have e:a'.tmps.getD 165 undef=.slice (some ⟨gu,0,none⟩) (la+1) (la+1):=hd.1
         have e2:a'.tmps.getD 166 undef=.int .i64 (nv:Int):=hd.2.1
         go_step
         exact hK _ _ rfl trivial rfl
       · intro a' w' hag hC hd K hK
         subst hC
         have e:a'.tmps.getD 167 undef=.slice (some ⟨gu,0,none⟩) nv (la+1):=hd.1
         go_step
         refine (cut_any HBC.out).mono ?_
         rintro e w'' ⟨rfl,rfl⟩
         exact hK _ _ rfl trivial rfl
       · intro a' w' hag hC hd K hK
         subst hC
         have e:a'.tmps.getD 8 undef=.int .i64 (k:Int):=hag 8 rfl
         go_step
         exact hK _ _ rfl trivial rfl
       · intro u w' hC hall
         subst hC
         obtain ⟨h0,h1,h2,h3,h4,h5,h6,_⟩:=hall
         have h1:u 1=.slice (some ⟨gq,0,none⟩) (trim qs).length (la+1-nv):=h1
         have h5:u 5=.slice (some ⟨gu,0,none⟩) (trim (us.take nv)).length (la+1):=h5
         have h6:u 6=.int .i64 (k:Int):=h6
         simp only [fillR,List.take_succ_cons,List.take_zero,Act.put,List.setIfInBounds_toArray,List.set_cons_succ,List.set_cons_zero,Nat.zero_add,Nat.reduceAdd,h1,h5,h6]
         have HBT:=Lib.hid HBC.out.trim_
         have hbtl:(trim (us.take nv)).length≤17179869184:=HBT.out.2.1
         clear h0 h1 h2 h3 h4 h5 h6
         go_wp2_with (go_at_call 389; refine (right_any HBT.out hbtl k (by omega)).mono ?_; rintro e w7 ⟨vr,rfl,hvr,hb7⟩)
         go_ret2
         refine ⟨.slice (some ⟨gq,0,none⟩) (trim qs).length (la+1-nv),vr,rfl,?_,?_,hbel.out.drew.trans (hb7.mono hbel.out.size)⟩
         · rw [← dig_of qs _ HQW.out.1 HLAST.out.1]
           exact (HQW.out.trim_).below hb7
         · rw [val_trim,HLAST.out.2] at hvr
           exact hvr
theorem divide_any {A B:Option Addr} {la ca lb cb a b:Nat} {w:World} (hx:Words w (.slice A la ca) (dig a)) (hy:Words w (.slice B lb cb) (dig b)) (hb:0<b) (hla:la≤4294967296) :
  Calls Tryz.prog 370 #[.slice A la ca,.slice B lb cb] w (DivPost w a b):=by
 rcases Nat.lt_or_ge a b with h | h
 · exact divide_small hx hy h
 · have hl:=hy.len.1
   have h0:0<lb:=by
    rcases Nat.eq_zero_or_pos lb with h1 | h1
    · rw [h1] at hl
      have:=(dig_nil_iff b).1 (List.eq_nil_of_length_eq_zero hl.symm)
      omega
    · exact h1
   rcases Nat.eq_or_lt_of_le h0 with h1 | h1
   · subst h1
     exact divide_word hx hy h
   · exact divide_long hx hy h h1 hla
end
end Go.Proofs.YtdiemgedlfnlmaaGreat
end
