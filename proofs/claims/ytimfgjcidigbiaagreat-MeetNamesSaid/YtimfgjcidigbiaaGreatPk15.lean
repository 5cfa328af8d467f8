/- SyN, G2, MtH, GsE, MtI, MtJ, MtK, MnA, MtL, MtTw, MtMx, MtTh, Open, OpnB. -/
import Derived.ProofKit
import Derived.OpenShut
import Derived.ShutString
import Derived.ChangeOld
import Derived.Below
import Derived.Test.YtimfgjcidigbiaaGreatPk14
set_option linter.unnecessarySimpa false
set_option linter.unusedVariables false
set_option linter.unusedSimpArgs false
section
namespace Go.Proofs.YtimfgjcidigbiaaGreat.Y
open Go Go.RowKit
set_option maxRecDepth 100000
theorem plain_lay {y x : Ob} (h : y.plain x = x) (hl : x.layOf.isSome = true) : y.layOf.isSome = true:=by
  rw [← h] at hl
  cases y with
  | box cs t=>rfl
  | row cs t n sz=>rfl
  | th D=>cases x <;> first | (cases hl; done) | (simp only [Ob.plain] at hl; revert hl; cases Nat.beq _ _ <;> exact fun h=>by cases h)
  | al r D=>cases x <;> first | (cases hl; done) | (simp only [Ob.plain] at hl; revert hl; cases Nat.beq _ _ <;> exact fun h=>by cases h)
  | pl n=>cases hl
  | dead=>cases hl
theorem need_lay {q : Nat → Bool} {ob : List Ob} : ∀ (outs : List (Nat × Ob)),Eqs.ok (needEqs q ob outs) → ∀ p ∈ outs,p.2.layOf.isSome = true → ∃ x,ob[p.1]? = some x ∧ x.layOf.isSome = true
  | [],_,p,hp,_=>by cases hp
  | (k,x) :: r,h,p,hp,hl=>by
    unfold needEqs at h
    cases hq : q k with
    | false=>rw [hq] at h; exact (Eqs.no_ok h).elim
    | true =>
      cases ho : ob[k]? with
      | none=>rw [hq,ho] at h; exact (Eqs.no_ok h).elim
      | some y =>
        rw [hq,ho] at h
        obtain ⟨e1,e2⟩:=Eqs.cons_ok h
        rcases List.mem_cons.1 hp with rfl | hp
        · injection e1 with e1
          exact ⟨y,ho,plain_lay e1 hl⟩
        · exact need_lay r e2 p hp hl
theorem sxN {P : Program} {f : FuncId} {fn : Func} (args : List SV) (obs : List Ob) (evs : List (Ev P)) (Ns : List (Nat × Nat)) (m : Nat) (res : SV) (outs : List (Nat × Ob)) (hf : P.funcs[f]? = some fn) (hm : P.follows .mixedOrders = true)
    (hok : ∀ β,Eqs.ok (allS P fn args obs evs Ns m res outs β))
    (hargs : args.all (SV.of fun k=>Nat.blt k obs.length) = true) (hobs : obs.all (fun x=>x.of (fun k=>Nat.blt k obs.length) && x.own) = true) (β : Env) (w : World) (hh : ∀ (k : Nat) (o : Ob),obs[k]? = some o → o.holds β w (β k)) :
    Calls P f (args.map (SV.den β)).toArray w fun e w'=>∃ (β' : Env) (q : Nat → Bool) (obj : Nat → Option Ob),(∀ k,k < obs.length → β' k = β k) ∧ e = .returned (res.den β') ∧ res.of q = true ∧ (∀ p ∈ outs,∀ c,(β' p.1).F c → w.heap.size ≤ c ∨ ∃ i,i < obs.length ∧ (β i).F c) ∧ holdsAll β' w' outs ∧ Fin w w' ∧ ∀ p ∈ outs,p.2.layOf.isSome = true → obs.length ≤ p.1 → w.heap.size ≤ (β' p.1).b:=by
  have hnal : ∀ (k r : Nat) (D : Thing),obs[k]? ≠ some (.al r D):=fun k r D ho=>by
    have:=List.all_eq_true.1 hobs _ (List.mem_of_getElem? ho)
    simp [Ob.own] at this
  have huq : UniqAl obs:=fun k j i D _ h1 _=>absurd h1 (hnal k i D)
  have hlt : ∀ k,k < obs.length → ∀ c,(β k).F c → c < w.heap.size:=fun k hk c hc=>by
    have h:=hh k _ (List.getElem?_eq_getElem hk)
    cases hx : obs[k] with
    | box cs t=>rw [hx] at h; rw [(h.1.1 c).1 hc]; exact heap_lt h.2
    | th D=>rw [hx] at h; exact D.st.lt _ _ h c hc
    | al r D=>rw [hx] at h; exact D.st.lt _ _ h c hc
    | pl n=>rw [hx] at h; rw [(h.1.1 c).1 hc]; exact h.2.lt
    | row cs t n sz=>rw [hx] at h; rw [(h.1.1 c).1 hc]; exact heap_lt h.2.choose_spec.1
    | dead =>
      have:=List.all_eq_true.1 hobs _ (List.mem_of_getElem? (List.getElem?_eq_getElem hk))
      rw [hx] at this
      simp [Ob.own] at this
  cases hb : fn.body with
  | none=>have:=hok β; unfold allS at this; rw [hb] at this; exact (Eqs.no_ok this).elim
  | some c =>
    have h1 : ∀ β,Eqs.ok (match fullS P fn args obs evs Ns m c with | some f=>fin1 P fn obs.length (sizeS fn args) res outs f β | none=>Eqs.no):=fun β=>by
      have:=hok β
      unfold allS at this
      rw [hb] at this
      exact this
    cases hr : fullS P fn args obs evs Ns m c with
    | none=>have:=h1 β; rw [hr] at this; exact (Eqs.no_ok this).elim
    | some g =>
      have h2 : ∀ β,Eqs.ok (fin1 P fn obs.length (sizeS fn args) res outs g β):=fun β=>by have:=h1 β; rw [hr] at this; exact this
      unfold fullS at hr
      obtain ⟨_,r2,r3⟩:=runC_ok hm _ _ _ _ _ hr ⟨fun k=>by dsimp only; rw [Nat.blt_eq],huq⟩
      have fin : ∃ r : R1 Value,run1 P obs.length false (results fn (tmpsS idE g.sl (sizeS fn args))) g.q g.ob [] = some r ∧ res.of g.q = true ∧ r.ob.length = g.ob.length ∧
          ∀ β,Eqs.ok (chk P β (results fn (tmpsS β g.sl (sizeS fn args))) r.tr.reverse (fun u=>[(.v u,.v (res.den β))]) ++ (needEqs g.q g.ob outs ++ eqsOf β g.cs)):=by
        cases hx : run1 P obs.length false (results fn (tmpsS idE g.sl (sizeS fn args))) g.q g.ob [] with
        | none=>have:=h2 β; unfold fin1 at this; rw [hx] at this; exact (Eqs.no_ok this).elim
        | some r =>
          obtain ⟨ra,rq,rob,rtr⟩:=r
          cases hc : (res.of g.q && Nat.beq rob.length g.ob.length && Nat.beq g.ev.length 0) with
          | false=>have:=h2 β; unfold fin1 at this; rw [hx] at this; dsimp only at this; rw [hc] at this; exact (Eqs.no_ok this).elim
          | true =>
            have h3:=hc
            simp only [Bool.and_eq_true,Nat.beq_eq] at hc
            refine ⟨_,rfl,hc.1.1,hc.1.2,fun β=>?_⟩
            have:=h2 β
            unfold fin1 at this
            rw [hx] at this
            dsimp only at this
            rw [h3] at this
            exact this
      obtain ⟨r,f1,f2,f3,f4⟩:=fin
      have hgood : g.good:=fun β x hx=>eqsOf_ok (fun p hp=>f4 β p (List.mem_append.2 (.inr (List.mem_append.2 (.inr hp))))) x hx
      refine calls_of_wp hf hb (r3 hgood (B0:=bd0 w.heap.size obs.length) (w0:=w) (β:=β) ⟨⟨Keep.refl _ _,Nat.le_refl _,fun k o hk ho=>⟨hh k o ho,(Bool.and_eq_true _ _ ▸ List.all_eq_true.1 hobs o (List.mem_of_getElem? ho)).1⟩,fun k hk=>hlt k (by simpa [Nat.blt_eq] using hk),fun k j hk _ _ hm=>?_,fun k _ hk hm=>?_,fun k hk hm=>?_,fun i hi=>by rw [Nat.blt_eq]; exact hi,fun k r D _ ho=>?_,fun k r D _ ho=>absurd ho (hnal k r D),fun k i _ hi _ hm=>by rw [Nat.blt_eq] at hi; omega⟩,fun k=>by dsimp only; rw [Nat.blt_eq],⟨?_,fun t=>?_⟩,fun t=>?_,⟨Nat.le_refl _,Nat.le_refl _⟩,rfl,huq⟩ _ fun β' a' w' e s=>?_)
      · rw [Nat.blt_eq] at hk; omega
      · rw [Nat.blt_eq] at hk; omega
      · rw [Nat.blt_eq] at hk; omega
      · exact absurd ho (hnal k r D)
      · simp [sizeS]
      · rw [look_start,if_pos (Nat.zero_le _),Nat.sub_zero]
        simp only [Array.getD_eq_getD_getElem?,Array.getElem?_append,List.size_toArray,List.length_map,List.getElem?_toArray,List.getElem?_map]
        split
        · rename_i hlt2
          rw [List.getElem?_eq_getElem hlt2]
          rfl
        · rename_i hge
          rw [List.getElem?_eq_none (by omega)]
          simp [Array.getElem?_replicate]
          split <;> rfl
      · dsimp only
        rw [look_start,if_pos (Nat.zero_le _),Nat.sub_zero]
        cases hx : args[t]? with
        | none=>rfl
        | some x=>exact List.all_eq_true.1 hargs x (List.mem_of_getElem? hx)
      · obtain ⟨h5,_,_,tr,h8,h9⟩:=run1_ok _ _ _ _ _ f1 (fun k hk=>(s.q k).1 hk)
        obtain ⟨k1,obj',k2,k3,k4⟩:=h9 _ _ _ _ _ _ s.good (fun k hk=>⟨hk,rfl⟩) (fun k a b=>by omega) s.m0.1
        have h6:=f4 β'
        rw [h8,List.append_nil,List.reverse_reverse] at h6
        have h7 : Eqs.ok (chk P β' (results fn (tmpsS β' g.sl (sizeS fn args))) tr (fun u=>[(.v u,.v (res.den β'))])):=fun p hp=>h6 p (List.mem_append.2 (.inl hp))
        obtain ⟨v,hv,hv2⟩:=chk_run _ _ _ h7 k1
        obtain ⟨e1,_⟩:=Eqs.cons_ok hv2
        injection e1 with e1
        subst e1
        rw [f3,rangeQ_self] at k4
        have hend : trEnd β' w' tr = w':=by
          obtain ⟨tr2,x1,x2⟩:=run1_still _ _ _ _ _ f1 (fun k hk=>(s.q k).1 hk) f3
          rw [h8,List.append_nil,List.append_nil] at x1
          rw [List.reverse_inj.1 x1]
          exact x2 β' w'
        rw [hend] at hv k4
        rw [← tmps_eq s.sl] at hv
        have e : ∀ k,k < obs.length → β' k = β k:=e
        have hout : ∀ p : Nat × Ob,g.q p.1 = true → ∀ c,(β' p.1).F c → w.heap.size ≤ c ∨ ∃ i,i < obs.length ∧ (β i).F c:=fun p hp c hc=>by
          by_cases h0 : obs.length ≤ p.1
          · exact (s.good.fr p.1 hp h0 c hc).imp (fun a=>a.elim id False.elim) fun ⟨i,i1,i2⟩=>⟨i,i1,by rw [← e i i1]; exact i2⟩
          · exact .inr ⟨p.1,by omega,by rw [← e p.1 (by omega)]; exact hc⟩
        have hneed : Eqs.ok (needEqs g.q g.ob outs):=fun p hp=>f4 β' p (List.mem_append.2 (.inr (List.mem_append.2 (.inl hp))))
        have hlow : ∀ p ∈ outs,p.2.layOf.isSome = true → obs.length ≤ p.1 → w.heap.size ≤ (β' p.1).b:=fun p hp hl hm=>by
          obtain ⟨x,hx,hy⟩:=need_lay _ hneed p hp hl
          exact (s.good.lowm p.1 x (needs_q _ hneed p hp) hm hx (by cases hy2 : x.layOf with | none=>rw [hy2] at hy; cases hy | some q=>exact lay_mine hy2)).elim id False.elim
        have hres : bodyPost P fn (fun e w'=>∃ (β' : Env) (q : Nat → Bool) (obj : Nat → Option Ob),(∀ k,k < obs.length → β' k = β k) ∧ e = .returned (res.den β') ∧ res.of q = true ∧ (∀ p ∈ outs,∀ c,(β' p.1).F c → w.heap.size ≤ c ∨ ∃ i,i < obs.length ∧ (β i).F c) ∧ holdsAll β' w' outs ∧ Fin w w' ∧ ∀ p ∈ outs,p.2.layOf.isSome = true → obs.length ≤ p.1 → w.heap.size ≤ (β' p.1).b) .normal a' w':=⟨s.defers,_,hv,β',g.q,obj',e,rfl,f2,fun p hp c hc=>hout p (needs_q _ hneed p hp) c hc,needs_hold s.good (fun k hk=>⟨hk,rfl⟩) _ hneed,⟨k4.bel.below⟩,fun p hp hl hm=>hlow p hp hl hm⟩
        exact ⟨hres,hres⟩
end Go.Proofs.YtimfgjcidigbiaaGreat.Y
end
section
namespace Go.Proofs.YtimfgjcidigbiaaGreat.Y
open Go Go.RowKit
set_option maxRecDepth 100000
def sFrat {x : Rat} (h : Fit x) : Spec Tryz.prog :=
  ⟨306,Tryz.call306,[.one (.a (fC x))],[],.one (.c (.b (.z 0 0))),[ratT x],fun β w hh=>by
    obtain ⟨y,hp⟩:=parts_of (fitF x h)
    obtain rfl : x = y:=fracV_inj hp.val
    exact (rat_frac hp).mono fun e w' ⟨g,he,h1,h2,h3⟩=>⟨[newPl g],fun y hy c hc=>by
      obtain rfl:=List.mem_singleton.1 hy
      rw [((newPl_one g).1 c).1 hc]
      exact .inl h1,by rw [he]; exact congrArg Ending.returned (extE_z β 0 0 (newPl g)).symm,⟨⟨g,(newPl_one g).at1,h2⟩,trivial⟩,h3⟩,by kernel_rfl⟩
def sFCmp {x y : Rat} (hx : Fit x) (hy : Fit y) : Spec Tryz.prog :=
  Spec.auto Tryz.call328 [.one (.a (fC x)),.one (.a (fC y))] [] (.tup [svI (cmpQ x y),nI' 0]) []
    [eMayF x hx,eMayF y hy,(sFrat hx).e,(sFrat hy).e,nCmp (hx.sz.mono (by decide)) (hy.sz.mono (by decide)) rfl] [(3,7)] 400 Tryz.func328 hmA (by kernel_rfl) (fun β=>by kernel_rfl)
def cmpG (r : Bool) (z w : GQ) : Int:=bif r then cmpQ z.re w.re else cmpQ z.im w.im
theorem ne_lit {a : Int} {r : Bool} (h : (!(a == 0)) = r) : Value.bool (!(a == 0)) = .bool r:=by rw [h]
noncomputable def sGCmp {z w : GQ} (hz : FitG z) (hw : FitG w) {r s : Bool} (hr : (!(cmpQ z.re w.re == 0)) = r) (hs : (!(cmpQ z.im w.im == 0)) = s) : Spec Tryz.prog :=
  ⟨285,Tryz.call285,[gS z,gS w],[],.tup [svI (cmpG r z w),nI' 0],[],fun β w' hh=>by
    cases r with
    | true=>exact spec_auto (evs:=[(sGM (gpX z hz) (r:=true) rfl).e,(sGM (gpX w hw) (r:=true) rfl).e,(sFCmp hz.1 hw.1).e,.eqv 41 (.bool (!(cmpQ z.re w.re == 0))) (.bool true) (ne_lit hr)]) (Ns:=[]) (m:=800) Tryz.func285 hmA (fun β=>by kernel_rfl) (by kernel_rfl) β w' hh
    | false=>cases s with
      | true=>exact spec_auto (evs:=[(sGM (gpX z hz) (r:=true) rfl).e,(sGM (gpX w hw) (r:=true) rfl).e,(sFCmp hz.1 hw.1).e,.eqv 41 (.bool (!(cmpQ z.re w.re == 0))) (.bool false) (ne_lit hr),(sFCmp hz.2 hw.2).e,.eqv 41 (.bool (!(cmpQ z.im w.im == 0))) (.bool true) (ne_lit hs)]) (Ns:=[]) (m:=800) Tryz.func285 hmA (fun β=>by kernel_rfl) (by kernel_rfl) β w' hh
      | false =>
        have e : cmpG false z w = 0:=by
          show cmpQ z.im w.im = 0
          rwa [Bool.not_eq_false',beq_iff_eq] at hs
        rw [e]
        exact spec_auto (evs:=[(sGM (gpX z hz) (r:=true) rfl).e,(sGM (gpX w hw) (r:=true) rfl).e,(sFCmp hz.1 hw.1).e,.eqv 41 (.bool (!(cmpQ z.re w.re == 0))) (.bool false) (ne_lit hr),(sFCmp hz.2 hw.2).e,.eqv 41 (.bool (!(cmpQ z.im w.im == 0))) (.bool false) (ne_lit hs)]) (Ns:=[]) (m:=800) Tryz.func285 hmA (fun β=>by kernel_rfl) (by kernel_rfl) β w' hh,by kernel_rfl⟩
def smE (k : Nat) (x y : R4) (a b c d : Bool) (ha : big k x.s = a) (hb : big k x.t = b) (hc : big k y.s = c) (hd : big k y.t = d) : List (Ev Tryz.prog) :=
  evBig k x.s 23 a ha :: bif a then [] else evBig k x.t 31 b hb :: bif b then [] else evBig k y.s 40 c hc :: bif c then [] else [evBig k y.t 49 d hd]
theorem small42_ok (k : Nat) (x y x' y' : R4) {r : Bool} (hr : (smB k x y && smB k x' y') = r) (β : Env) (w : World) (hh : (Ob.box (x.L ++ y.L ++ x'.L ++ y'.L) 27).holds β w (β 0)) :
    Calls Tryz.prog 16 (([.one (.c (.b (.v (.int .i64 (k : Int))))),.one (.c (.b (.s 0 0 2 2)))] : List SV).map (SV.den β)).toArray w fun e w'=>e = .returned (.bool r) ∧ Below w.heap.size w w':=by
  unfold smB at hr
  have fin : ∀ {a b c d : Bool} (ha : big k x.s = a) (hb : big k x.t = b) (hc : big k y.s = c) (hd : big k y.t = d) {a' b' c' d' : Bool} (ha' : big k x'.s = a') (hb' : big k x'.t = b') (hc' : big k y'.s = c') (hd' : big k y'.t = d'),
      Calls Tryz.prog 16 (([.one (.c (.b (.v (.int .i64 (k : Int))))),.one (.c (.b (.s 0 0 2 2)))] : List SV).map (SV.den β)).toArray w fun e w'=>e = .returned (.bool (!(a || (b || (c || d))) && !(a' || (b' || (c' || d'))))) ∧ Below w.heap.size w w':=by
    intro a b c d ha hb hc hd a' b' c' d' ha' hb' hc' hd'
    cases a
    · cases b
      · cases c
        · cases d
          · cases a'
            · cases b'
              · cases c'
                · cases d' <;> exact bspec_ok (smE k x y _ _ _ _ ha hb hc hd ++ smE k x' y' _ _ _ _ ha' hb' hc' hd') [] 1200 Tryz.func16 hmA (fun β=>by kernel_rfl) (by kernel_rfl) (fun β=>rfl) β w hh
                · exact bspec_ok (smE k x y _ _ _ _ ha hb hc hd ++ smE k x' y' _ _ _ _ ha' hb' hc' hd') [] 1200 Tryz.func16 hmA (fun β=>by kernel_rfl) (by kernel_rfl) (fun β=>rfl) β w hh
              · exact bspec_ok (smE k x y _ _ _ _ ha hb hc hd ++ smE k x' y' _ _ _ _ ha' hb' hc' hd') [] 1200 Tryz.func16 hmA (fun β=>by kernel_rfl) (by kernel_rfl) (fun β=>rfl) β w hh
            · exact bspec_ok (smE k x y _ _ _ _ ha hb hc hd ++ smE k x' y' _ _ _ _ ha' hb' hc' hd') [] 1200 Tryz.func16 hmA (fun β=>by kernel_rfl) (by kernel_rfl) (fun β=>rfl) β w hh
          · exact bspec_ok (smE k x y _ _ _ _ ha hb hc hd) [] 1200 Tryz.func16 hmA (fun β=>by kernel_rfl) (by kernel_rfl) (fun β=>rfl) β w hh
        · exact bspec_ok (smE k x y _ _ _ _ ha hb hc hd) [] 1200 Tryz.func16 hmA (fun β=>by kernel_rfl) (by kernel_rfl) (fun β=>rfl) β w hh
      · exact bspec_ok (smE k x y _ _ _ _ ha hb hc hd) [] 1200 Tryz.func16 hmA (fun β=>by kernel_rfl) (by kernel_rfl) (fun β=>rfl) β w hh
    · exact bspec_ok (smE k x y _ _ _ _ ha hb hc hd) [] 1200 Tryz.func16 hmA (fun β=>by kernel_rfl) (by kernel_rfl) (fun β=>rfl) β w hh
  have:=fin (a:=big k x.s) rfl rfl rfl rfl (a':=big k x'.s) rfl rfl rfl rfl
  rw [hr] at this
  exact this
def sR4Small2 (k : Nat) (x y x' y' : R4) {b : Bool} (hb : (smB k x y && smB k x' y') = b) : BSpec Tryz.prog :=
  ⟨16,Tryz.call16,[.one (.c (.b (.v (.int .i64 (k : Int))))),.one (.c (.b (.s 0 0 2 2)))],x.L ++ y.L ++ x'.L ++ y'.L,27,.bool b,small42_ok k x y x' y' hb,by kernel_rfl,fun _=>rfl⟩
end Go.Proofs.YtimfgjcidigbiaaGreat.Y
end
section
namespace Go.Proofs.YtimfgjcidigbiaaGreat.Y
open Go Go.RowKit
set_option maxRecDepth 100000
structure RSpec (P : Program) where
  f : FuncId
  en : Enters P f
  args : List SV
  src : Ob
  res : SV
  ok : ∀ β w,src.holds β w (β 0) → Calls P f (args.map (SV.den β)).toArray w fun e w'=>e = .returned (res.den β) ∧ Below w.heap.size w w'
  cl : (src.of (fun _=>false) && (args.all (SV.of fun k=>Nat.beq k 0) && res.of fun k=>Nat.beq k 0)) = true
def bkOfR : List SV → Nat
  | []=>0
  | .one (.c (.b (.r k _))) :: _=>k
  | _ :: r=>bkOfR r
def RSpec.e {P : Program} (S : RSpec P) : Ev P:=.dyn (fun o _ _=>isCallB o) fun _ xs ob=>lit (bkOfR xs) fun i=>lit ob.length fun n =>
  .call S.f S.en (fun β=>(S.args.map (SV.den fun _=>β i)).toArray) [(i,S.src)] n (S.res.ren fun _=>i) [] (fun β w h=>by
    have hc:=S.cl
    simp only [Bool.and_eq_true] at hc
    obtain ⟨c1,c2,c3⟩:=hc
    have h1 : S.src.holds β w (β i):=h _ (List.mem_singleton.2 rfl)
    refine (S.ok (fun _=>β i) w (Ob.holds_congr (q:=fun _=>false) (fun k hk=>by cases hk) _ c1 h1)).mono fun e w' ⟨k1,k2⟩=>⟨[],(fun _ h=>by cases h),?_,trivial,k2⟩
    rw [k1,extE_nil,SV.den_ren])
theorem rspec_ok {P : Program} {f : FuncId} {fn : Func} {args : List SV} {src : Ob} {res : SV} (evs : List (Ev P)) (Ns : List (Nat × Nat)) (m : Nat) (hf : P.funcs[f]? = some fn) (hm : P.follows .mixedOrders = true)
    (h : ∀ β,(allS P fn args [src] evs Ns m res [] β).map Prod.fst = (allS P fn args [src] evs Ns m res [] β).map Prod.snd)
    (hB : (args.all (SV.of fun k=>Nat.blt k 1) && [src].all fun x=>x.of (fun k=>Nat.blt k 1) && x.own) = true) (hr : (res.of fun k=>Nat.beq k 0) = true) (β : Env) (w : World) (hh : src.holds β w (β 0)) :
    Calls P f (args.map (SV.den β)).toArray w fun e w'=>e = .returned (res.den β) ∧ Below w.heap.size w w':=by
  rw [Bool.and_eq_true] at hB
  refine (sx (P:=P) args [src] evs Ns m res [] hf hm (fun β=>ok_of_maps (h β)) hB.1 hB.2 β w (fun k o ho=>?_)).mono ?_
  · cases k with
    | zero=>simp only [List.getElem?_cons_zero] at ho; obtain rfl:=Option.some.inj ho; exact hh
    | succ k=>simp at ho
  · rintro e w' ⟨β',q,obj,e1,rfl,_,_,_,g⟩
    refine ⟨?_,g.bel⟩
    rw [SV.den_congr (β:=β') (β':=β) (q:=fun k=>Nat.beq k 0) (fun k hk=>by have:=Nat.eq_of_beq_eq_true hk; subst this; exact e1 0 (Nat.zero_lt_one)) res hr]
def RSpec.auto {P : Program} {f : FuncId} {fn : Func} (en : Enters P f) (args : List SV) (src : Ob) (res : SV) (evs : List (Ev P)) (Ns : List (Nat × Nat)) (m : Nat) (hf : P.funcs[f]? = some fn) (hm : P.follows .mixedOrders = true)
    (hB : (args.all (SV.of fun k=>Nat.blt k 1) && [src].all fun x=>x.of (fun k=>Nat.blt k 1) && x.own) = true) (hr : (res.of fun k=>Nat.beq k 0) = true)
    (cl : (src.of (fun _=>false) && (args.all (SV.of fun k=>Nat.beq k 0) && res.of fun k=>Nat.beq k 0)) = true)
    (h : ∀ β,(allS P fn args [src] evs Ns m res [] β).map Prod.fst = (allS P fn args [src] evs Ns m res [] β).map Prod.snd) : RSpec P :=
  ⟨f,en,args,src,res,rspec_ok evs Ns m hf hm h hB hr,cl⟩
theorem mrow_ok {P : Program} {f : FuncId} {fn : Func} {args : List SV} {cs ds : List Lf} {t : TypeId} {n sz : Nat} (evs : List (Ev P)) (Ns : List (Nat × Nat)) (m : Nat) (hf : P.funcs[f]? = some fn) (hm : P.follows .mixedOrders = true)
    (h : ∀ β,(allM P 0 fn args [.row cs t n sz] evs Ns m (.tup []) [(0,.row ds t n sz)] β).map Prod.fst = (allM P 0 fn args [.row cs t n sz] evs Ns m (.tup []) [(0,.row ds t n sz)] β).map Prod.snd)
    (hB : (args.all (SV.of fun k=>Nat.blt k 1) && [Ob.row cs t n sz].all fun x=>x.of (fun k=>Nat.blt k 1) && x.own) = true) (hd : (Ob.row ds t n sz).of (fun _=>false) = true) (β : Env) (w : World)
    (hh : ∀ (k : Nat) (t : Thing),([] : List Thing)[k]? = some t → t.D w (β k)) (ha : (Ob.row cs t n sz).holds β w (β 0)) :
    Calls P f (args.map (SV.den β)).toArray w fun e w'=>∃ xs : List Pl,freshS β w 0 xs ∧ e = .returned ((SV.tup []).den (extE β 1 xs)) ∧ newHold w' [] xs ∧ (Ob.row ds t n sz).holds (extE β 1 xs) w' (β 0) ∧ TouchL w w' [(β 0).b]:=by
  rw [Bool.and_eq_true] at hB
  refine (sxM (P:=P) 0 args [.row cs t n sz] evs Ns m (.tup []) [(0,.row ds t n sz)] hf hm (fun β=>ok_of_maps (h β)) (Nat.zero_le _) hB.1 hB.2 (fun k k1 k2=>?_) (fun k k1 k2=>?_) β w (fun k o ho=>?_) (fun k j k1 k2 k3 k4=>?_)).mono ?_
  · obtain rfl : k = 0:=by simp only [List.length_singleton] at k2; omega
    rfl
  · obtain rfl : k = 0:=by simp only [List.length_singleton] at k2; omega
    exact ⟨_,_,List.mem_cons_self ..,rfl⟩
  · cases k with
    | zero=>simp only [List.getElem?_cons_zero] at ho; obtain rfl:=Option.some.inj ho; exact ha
    | succ k=>simp at ho
  · simp only [List.length_singleton] at k2 k3
    omega
  · rintro e u ⟨β',q,e1,rfl,e3,e4,e5,e6⟩
    have b0 : β' 0 = β 0:=e1 0 (by show 0 < 1; decide)
    have h5:=e5 _ (List.mem_cons_self ..)
    refine ⟨[],(fun _ h=>by cases h),rfl,trivial,?_,⟨e6.os,e6.tape,e6.output,e6.size,fun k hk hne=>e6.block k hk fun ⟨i,i1,i2,hS⟩=>?_⟩⟩
    · dsimp only at h5
      rw [b0] at h5
      exact Ob.holds_congr (q:=fun _=>false) (fun k hk=>by cases hk) _ hd h5
    · obtain rfl : i = 0:=by simp only [List.length_singleton] at i2; omega
      exact hne (by rw [hS]; exact List.mem_singleton.2 rfl)
abbrev PTT : TypeId:=29
abbrev pw (p : Pt) : List Lf:=rawC p.i p.x p.y
abbrev pr2 (p q : Pt) : Ob:=.row (pw p ++ pw q) PTT 2 9
abbrev r2V : SV:=.one (.c (.b (.r 0 2)))
def sChk1 {p : Pt} (hp : FitP p) : Spec Tryz.prog :=
  ⟨282,Tryz.call282,[svP p],[],.one (.c (.b (.v (.bool false)))),[],fun β w hh=>by
    cases p
    · exact spec_auto (args:=[svP .inf]) (obs:=[]) (evs:=[(sPMay (ppt .inf hp)).e]) (Ns:=[]) (m:=400) Tryz.func282 hmA (fun β=>by kernel_rfl) (by kernel_rfl) β w hh
    · rename_i z
      exact spec_auto (args:=[svP (.fin z)]) (obs:=[]) (evs:=[(sPMay (ppt (.fin z) hp)).e]) (Ns:=[]) (m:=400) Tryz.func282 hmA (fun β=>by kernel_rfl) (by kernel_rfl) β w hh,by cases p <;> kernel_rfl⟩
noncomputable def sPIdx2 {p q : Pt} (hp : FitP p) (hq : FitP q) : RSpec Tryz.prog :=
  RSpec.auto Tryz.call317 [r2V,fvV 282] (pr2 p q) (.one (svI (-1))) [(sChk1 hp).e,(sChk1 hq).e] [] 800 Tryz.func317 hmA (by kernel_rfl) (by kernel_rfl) (by kernel_rfl) (fun β=>by kernel_rfl)
noncomputable def sPHas2 {p q : Pt} (hp : FitP p) (hq : FitP q) : RSpec Tryz.prog :=
  RSpec.auto Tryz.call281 [r2V,fvV 282] (pr2 p q) (.one (.c (.b (.v (.bool false))))) [(sPIdx2 hp hq).e] [] 400 Tryz.func281 hmA (by kernel_rfl) (by kernel_rfl) (by kernel_rfl) (fun β=>by kernel_rfl)
noncomputable def sPCheck2 {p q : Pt} (hp : FitP p) (hq : FitP q) : RSpec Tryz.prog :=
  RSpec.auto Tryz.call227 [r2V] (pr2 p q) (.one (svI 0)) [(sPHas2 hp hq).e] [] 400 Tryz.func227 hmA (by kernel_rfl) (by kernel_rfl) (by kernel_rfl) (fun β=>by kernel_rfl)
noncomputable def ordI : Pt → Pt → Int
  | .inf,.inf=>0
  | .inf,_=>1
  | _,.inf=>-1
  | .fin z,.fin w=>cmpG (!(cmpQ z.re w.re == 0)) z w
noncomputable def sOrder {p q : Pt} (hp : FitP p) (hq : FitP q) : Spec Tryz.prog :=
  ⟨230,Tryz.call230,[svP p,svP q],[],.one (svI (ordI p q)),[],fun β w hh=>by
    cases p <;> cases q
    · exact spec_auto (args:=[svP .inf,svP .inf]) (obs:=[]) (evs:=[]) (Ns:=[]) (m:=800) Tryz.func230 hmA (fun β=>by kernel_rfl) (by kernel_rfl) β w hh
    · rename_i z
      exact spec_auto (args:=[svP .inf,svP (.fin z)]) (obs:=[]) (evs:=[]) (Ns:=[]) (m:=800) Tryz.func230 hmA (fun β=>by kernel_rfl) (by kernel_rfl) β w hh
    · rename_i z
      exact spec_auto (args:=[svP (.fin z),svP .inf]) (obs:=[]) (evs:=[]) (Ns:=[]) (m:=800) Tryz.func230 hmA (fun β=>by kernel_rfl) (by kernel_rfl) β w hh
    · rename_i z u
      exact spec_auto (args:=[svP (.fin z),svP (.fin u)]) (obs:=[]) (evs:=[(sGCmp (z:=z) (w:=u) hp hq rfl rfl).e]) (Ns:=[]) (m:=800) Tryz.func230 hmA (fun β=>by kernel_rfl) (by kernel_rfl) β w hh,by cases p <;> cases q <;> kernel_rfl⟩
theorem lss_lit {n : Int} {b : Bool} (h : decide (n < 0) = b) : Value.bool (decide (n < 0)) = .bool b:=by rw [h]
section
variable {p q : Pt} (hp : FitP p) (hq : FitP q)
noncomputable def insE {b : Bool} (h : decide (ordI q p < 0) = b) : List (Ev Tryz.prog):=[(sOrder hq hp).e,.eqv 33 (.bool (decide (ordI q p < 0))) (.bool b) (lss_lit h)]
noncomputable def sInsNo (h : decide (ordI q p < 0) = false) : MSpec Tryz.prog :=
  ⟨318,Tryz.call318,[r2V,.one (svI 0),.one (svI 2),fvV 230],[],pr2 p q,pr2 p q,.tup [],[],
    mrow_ok (insE hp hq h) [(4,17),(6,1015016)] 800 Tryz.func318 hmA (fun β=>by kernel_rfl) (by kernel_rfl) (by kernel_rfl),by kernel_rfl⟩
noncomputable def sInsYes (h : decide (ordI q p < 0) = true) : MSpec Tryz.prog :=
  ⟨318,Tryz.call318,[r2V,.one (svI 0),.one (svI 2),fvV 230],[],pr2 p q,pr2 q p,.tup [],[],
    mrow_ok (insE hp hq h) [(4,17),(6,1015016)] 800 Tryz.func318 hmA (fun β=>by kernel_rfl) (by kernel_rfl) (by kernel_rfl),by kernel_rfl⟩
end
structure RRow (P : Program) where
  f : FuncId
  en : Enters P f
  args : List SV
  src : Ob
  row : Ob
  res : SV
  ok : ∀ β w,src.holds β w (β 0) → Calls P f (args.map (SV.den β)).toArray w fun e w'=>∃ g : Pl,w.heap.size ≤ g.b ∧ e = .returned (res.den (fun _=>g)) ∧ row.holds (fun _=>g) w' g ∧ Below w.heap.size w w'
  cl : (src.of (fun _=>false) && (row.of (fun _=>false) && (args.all (SV.of fun k=>Nat.beq k 0) && res.of fun k=>Nat.beq k 0))) = true
def RRow.e {P : Program} (S : RRow P) : Ev P:=.dyn (fun o _ _=>isCallB o) fun _ xs ob=>lit (bkOfR xs) fun i=>lit ob.length fun n =>
  .own S.f S.en (fun β=>(S.args.map (SV.den fun _=>β i)).toArray) [(i,S.src)] n S.row (S.res.ren fun _=>n) [] (fun β w h=>by
    have hc:=S.cl
    simp only [Bool.and_eq_true] at hc
    obtain ⟨c1,c2,c3,c4⟩:=hc
    have h1 : S.src.holds β w (β i):=h _ (List.mem_singleton.2 rfl)
    refine (S.ok (fun _=>β i) w (Ob.holds_congr (q:=fun _=>false) (fun k hk=>by cases hk) _ c1 h1)).mono ?_
    rintro e w' ⟨g,k1,rfl,k3,k4⟩
    have hg : extE β n [g] n = g:=extE_in (i:=0) (xs:=[g]) rfl
    refine ⟨g,[],⟨k1,(fun _ h=>by cases h),(fun _ h=>by cases h)⟩,?_,Ob.holds_congr (q:=fun _=>false) (fun k hk=>by cases hk) _ c2 k3,trivial,k4⟩
    rw [SV.den_ren]
    congr 1
    exact SV.den_congr (q:=fun k=>Nat.beq k 0) (fun k _=>hg.symm) _ c4)
theorem rrow_ok {P : Program} {f : FuncId} {fn : Func} {args : List SV} {src : Ob} {cs : List Lf} {t : TypeId} {n sz N : Nat} (evs : List (Ev P)) (Ns : List (Nat × Nat)) (m : Nat) (hf : P.funcs[f]? = some fn) (hm : P.follows .mixedOrders = true)
    (h : ∀ β,(allS P fn args [src] evs Ns m (.one (.c (.b (.r N n)))) [(N,.row cs t n sz)] β).map Prod.fst = (allS P fn args [src] evs Ns m (.one (.c (.b (.r N n)))) [(N,.row cs t n sz)] β).map Prod.snd)
    (hN : Nat.ble 1 N = true) (hB : (args.all (SV.of fun k=>Nat.blt k 1) && [src].all fun x=>x.of (fun k=>Nat.blt k 1) && x.own) = true) (hr : (Ob.row cs t n sz).of (fun _=>false) = true) (β : Env) (w : World) (hh : src.holds β w (β 0)) :
    Calls P f (args.map (SV.den β)).toArray w fun e w'=>∃ g : Pl,w.heap.size ≤ g.b ∧ e = .returned ((SV.one (.c (.b (.r 0 n)))).den (fun _=>g)) ∧ (Ob.row cs t n sz).holds (fun _=>g) w' g ∧ Below w.heap.size w w':=by
  rw [Bool.and_eq_true] at hB
  rw [Nat.ble_eq] at hN
  refine (sxN (P:=P) args [src] evs Ns m (.one (.c (.b (.r N n)))) [(N,.row cs t n sz)] hf hm (fun β=>ok_of_maps (h β)) hB.1 hB.2 β w (fun k o ho=>?_)).mono ?_
  · cases k with
    | zero=>simp only [List.getElem?_cons_zero] at ho; obtain rfl:=Option.some.inj ho; exact hh
    | succ k=>simp at ho
  · rintro e w' ⟨β',q,obj,e1,rfl,_,e4,e5,g,hl⟩
    have h5:=e5 _ (List.mem_cons_self ..)
    exact ⟨β' N,hl _ (List.mem_cons_self ..) rfl hN,rfl,Ob.holds_congr (q:=fun _=>false) (fun k hk=>by cases hk) _ hr h5,g.bel⟩
theorem pt_some : (Tryz.prog.info? PTT).isSome = true:=by kernel_rfl
noncomputable def appPt : AppT Tryz.prog :=
  ⟨62,PTT,(Tryz.prog.info? PTT).get pt_some,.agg #[.bool false,.bool false,.string ⟨#[]⟩,.bool false,.string ⟨#[]⟩,.bool false,.string ⟨#[]⟩,.bool false,.string ⟨#[]⟩],9,104,Tryz.underlying62,(Option.some_get pt_some).symm,by kernel_rfl,by kernel_rfl,by kernel_rfl,rfl,by decide,by decide⟩
noncomputable def sPClone (p q : Pt) : RRow Tryz.prog :=
  ⟨228,Tryz.call228,[r2V],pr2 p q,pr2 p q,r2V,
    rrow_ok (N:=2) [.app appPt,.app appPt] [] 400 Tryz.func228 hmA (fun β=>by kernel_rfl) (by kernel_rfl) (by kernel_rfl) (by kernel_rfl),by kernel_rfl⟩
def sLen64 : Spec Tryz.prog :=
  Spec.auto Tryz.call327 [.one (.c (.b (.v (.int .u64 2))))] [] (.one (svI 2)) [] [] [] 400 Tryz.func327 hmA (by kernel_rfl) (fun β=>by kernel_rfl)
def sBits2 : Spec Tryz.prog :=
  Spec.auto Tryz.call284 [.one (.c (.b (.v (.int .u64 2))))] [] (.one (svI 2)) [] [sLen64.e] [] 400 Tryz.func284 hmA (by kernel_rfl) (fun β=>by kernel_rfl)
section
variable {p q : Pt} (hp : FitP p) (hq : FitP q)
noncomputable def sPdqNo (h : decide (ordI q p < 0) = false) : MSpec Tryz.prog :=
  ⟨283,Tryz.call283,[r2V,.one (svI 0),.one (svI 2),.one (svI 2),fvV 230],[],pr2 p q,pr2 p q,.tup [],[],
    mrow_ok [(sInsNo hp hq h).e] [(17,17)] 800 Tryz.func283 hmA (fun β=>by kernel_rfl) (by kernel_rfl) (by kernel_rfl),by kernel_rfl⟩
noncomputable def sPdqYes (h : decide (ordI q p < 0) = true) : MSpec Tryz.prog :=
  ⟨283,Tryz.call283,[r2V,.one (svI 0),.one (svI 2),.one (svI 2),fvV 230],[],pr2 p q,pr2 q p,.tup [],[],
    mrow_ok [(sInsYes hp hq h).e] [(17,17)] 800 Tryz.func283 hmA (fun β=>by kernel_rfl) (by kernel_rfl) (by kernel_rfl),by kernel_rfl⟩
noncomputable def sSortNo (h : decide (ordI q p < 0) = false) : MSpec Tryz.prog :=
  ⟨229,Tryz.call229,[r2V,fvV 230],[],pr2 p q,pr2 p q,.tup [],[],
    mrow_ok [sBits2.e,(sPdqNo hp hq h).e] [] 800 Tryz.func229 hmA (fun β=>by kernel_rfl) (by kernel_rfl) (by kernel_rfl),by kernel_rfl⟩
noncomputable def sSortYes (h : decide (ordI q p < 0) = true) : MSpec Tryz.prog :=
  ⟨229,Tryz.call229,[r2V,fvV 230],[],pr2 p q,pr2 q p,.tup [],[],
    mrow_ok [sBits2.e,(sPdqYes hp hq h).e] [] 800 Tryz.func229 hmA (fun β=>by kernel_rfl) (by kernel_rfl) (by kernel_rfl),by kernel_rfl⟩
end
noncomputable def sCompact2 {p q : Pt} (h : ptB q p = false) : RSpec Tryz.prog :=
  RSpec.auto Tryz.call231 [r2V] (pr2 p q) r2V [eqEvPt h] [(6,10)] 400 Tryz.func231 hmA (by kernel_rfl) (by kernel_rfl) (by kernel_rfl) (fun β=>by kernel_rfl)
end Go.Proofs.YtimfgjcidigbiaaGreat.Y
end
section
namespace Go.Proofs.YtimfgjcidigbiaaGreat.Y
open Go Go.RowKit
set_option maxRecDepth 100000
theorem pow_dig (m : Nat) : (4294967296 : Nat) ^ (m + 1) = 256 ^ (4 * m) * 4294967296:=by
  rw [Nat.pow_succ,Nat.pow_mul]
theorem dig_big {n k : Nat} (h : n < 256 ^ k) (hk : k ≤ 8000) : (dig (5 * n)).length ≤ 4294967296:=by
  obtain ⟨m,hm⟩ : ∃ m : Nat,m = 2000:=⟨_,rfl⟩
  have hkm : k ≤ 4 * m:=by omega
  refine Nat.le_trans (dig_len_le (5 * n) (m + 1) ?_) (by omega)
  have h1 : 256 ^ k ≤ 256 ^ (4 * m):=Nat.pow_le_pow_right (by decide) hkm
  rw [pow_dig]
  generalize (256 : Nat) ^ (4 * m) = z at h1
  omega
abbrev KS : Nat:=4000
structure RootB (x : Rat) (n d a b : Nat) : Prop where
  hn : x.num = (n : Int)
  hd : (x.den : Int) = (d : Int)
  a1 : a * a ≤ n
  a2 : n < (a + 1) * (a + 1)
  b1 : b * b ≤ d
  b2 : d < (b + 1) * (b + 1)
  ln : (dig (5 * n)).length ≤ 4294967296
  ld : (dig (5 * d)).length ≤ 4294967296
  b0 : (b : Int) ≠ 0
  sa : sz (a : Int) ≤ KS
  sb : sz (b : Int) ≤ KS
def Spec.newsAs {P : Program} (S : Spec P) (l : List Thing) (h : S.news = l) : Spec P :=
  ⟨S.f,S.en,S.args,S.obs,S.res,l,fun β w hh=>by rw [← h]; exact S.ok β w hh,by rw [← h]; exact S.closed⟩
section
variable {u : GQ} (hu : GSz 64 u)
include hu
end
end Go.Proofs.YtimfgjcidigbiaaGreat.Y
end
section
namespace Go.Proofs.YtimfgjcidigbiaaGreat.Y
open Go Go.RowKit
set_option maxRecDepth 100000
def sERoot {x : Rat} (hx : Sz KB x) {n d a b : Nat} (h : RootB x n d a b) {t : Bool} (ht : decide (Rat.divInt a b * Rat.divInt a b = x) = t) : Spec Tryz.prog :=
  Spec.auto Tryz.call226 [rV 0] [ratT x] (.tup [.c (.b (.z 1 0)),.c (.b (.v (.bool t)))]) [ratT (Rat.divInt a b)]
    [nSign (x:=x) rfl,.eqv 9 (.bool (decide (x.num.sign < 0))) (.bool false) (nat_sign h.hn),mkI,nNum x,fSqrt h.hn h.a1 h.a2 h.ln,mkI,nDenom x,fSqrt h.hd h.b1 h.b2 h.ld,mkR,fSetFrac h.b0 (Nat.le_trans h.sa (by decide)) (Nat.le_trans h.sb (by decide)),
      (sMulR ((sz_divInt h.b0 h.sa h.sb).mono (by decide)) ((sz_divInt h.b0 h.sa h.sb).mono (by decide))).e,nCmp (c:=cmpQ (Rat.divInt a b * Rat.divInt a b) x) (((sz_divInt h.b0 h.sa h.sb).mul (sz_divInt h.b0 h.sa h.sb)).mono (by decide)) hx rfl,.eqv 28 (.bool (cmpQ (Rat.divInt a b * Rat.divInt a b) x == 0)) (.bool t) (cmp_root ht)]
    [] 800 Tryz.func226 hmA (by kernel_rfl) (fun β=>by kernel_rfl)
theorem realG_ok {x : Rat} (β : Env) (w : World) (hh : ∀ (k : Nat) (t : Thing),([ratT x] : List Thing)[k]? = some t → t.D w (β k)) :
    Calls Tryz.prog 222 (([rV 0] : List SV).map (SV.den β)).toArray w fun e w'=>∃ xs : List Pl,freshS β w 1 xs ∧ e = .returned ((nV 1).den (extE β 1 xs)) ∧ newHold w' (gM ⟨x,0⟩) xs ∧ Below w.heap.size w w':=by
  have h0 : (ratT x).D w (β 0):=hh 0 _ rfl
  refine (spec_auto (args:=[rV 0]) (obs:=[ratT x]) (res:=.one (.a [.b (.z 0 0),.b (.v (.pointer none))])) (news:=[]) (evs:=[]) (Ns:=[]) (m:=100) Tryz.func222 hmA (fun β=>by kernel_rfl) (by kernel_rfl) β w hh).mono ?_
  rintro e w' ⟨xs,_,rfl,h2,h3⟩
  obtain rfl : xs = []:=by cases xs with | nil=>rfl | cons a l=>exact h2.elim
  refine ⟨[β 0,nilPl],fun y hy c hc=>?_,?_,⟨(ratT x).imp w' _ ((ratT x).st.below w w' _ h0 h3),nil_or (x:=0) (decide_eq_true rfl) w',trivial⟩,h3⟩
  · rcases List.mem_cons.1 hy with rfl | hy
    · exact .inr ⟨0,by show 0 < 1; decide,hc⟩
    · obtain rfl:=List.mem_singleton.1 hy
      exact absurd hc id
  · have e1:=extE_in (β:=β) (n:=1) (i:=0) (xs:=[β 0,nilPl]) rfl
    have e2:=extE_in (β:=β) (n:=1) (i:=1) (xs:=[β 0,nilPl]) rfl
    have e1 : extE β 1 [β 0,nilPl] 1 = β 0:=e1
    have e2 : extE β 1 [β 0,nilPl] 2 = nilPl:=e2
    rw [extE_nil]
    simp [SV.den,SC.den,Lf.den,Lf0.den,e1,e2]
    rfl
def sERealG (x : Rat) : Spec Tryz.prog :=
  ⟨222,Tryz.call222,[rV 0],[ratT x],nV 1,gM ⟨x,0⟩,realG_ok,by kernel_rfl⟩
abbrev rg (x : Rat) : GQ:=⟨x,0⟩
def wy0 (f : RQ) : GQ:=gadd (rg f.b.re) (gmul (rg f.b.im) (gint 0 1))
def wayQ (f : RQ) : GQ:=gconj (wy0 f)
def cenQ (f : RQ) : GQ:=gscale (gneg (gconj (wy0 f))) (f.a)⁻¹
abbrev KI : Nat:=300
theorem rg_sz {k : Nat} {x : Rat} (h : Sz k x) (hk : 1 ≤ k) : GSz k (rg x):=⟨h,sz_zero.mono hk⟩
theorem gi_sz : GSz 1 (gint 0 1):=GSz.int (by decide) (by decide)
section
variable {f : RQ} (hf : RSz KI f)
include hf in
theorem wym_sz : GSz 603 (gmul (rg f.b.im) (gint 0 1)):=((rg_sz hf.b.2 (by decide)).mul gi_sz).mono (by decide)
include hf in
theorem wy0_sz : GSz 904 (wy0 f):=((rg_sz hf.b.1 (by decide)).add (wym_sz hf)).mono (by decide)
include hf in
theorem wayQ_sz : GSz 904 (wayQ f):=(wy0_sz hf).conj
include hf in
theorem cenQ_sz (h0 : f.a ≠ 0) : GSz 1204 (cenQ f):=((wy0_sz hf).conj.neg.scale (hf.a.inv h0)).mono (by decide)
noncomputable def wyE : List (Ev Tryz.prog):=[(sERealG f.b.re).e,(sERealG f.b.im).e,(sInt 0 1 (by decide) (by decide)).e,(sMul ((rg_sz hf.b.2 (by decide)).mono (by decide)) (gi_sz.mono (by decide))).e,(sAdd ((rg_sz hf.b.1 (by decide)).mono (by decide)) ((wym_sz hf).mono (by decide))).e]
noncomputable def sWay : Spec Tryz.prog :=
  Spec.auto Tryz.call223 [rgV 0] (rgT f) (nV 4) (gT (wayQ f)) (wyE hf ++ [(sConj (wy0 f)).e]) [(1,10)] 800 Tryz.func223 hmA (by kernel_rfl) (fun β=>by kernel_rfl)
noncomputable def sCentre (h0 : f.a ≠ 0) : Spec Tryz.prog :=
  Spec.auto Tryz.call219 [rgV 0] (rgT f) (nV 4) (gT (cenQ f))
    (wyE hf ++ [(sConj (wy0 f)).e,(sNeg (gconj (wy0 f))).e,mkR,fInv (hf.a.mono (by decide)) h0,(sScale ((wy0_sz hf).conj.neg.mono (by decide)) ((hf.a.inv h0).mono (by decide))).e])
    [(1,10),(2,8)] 800 Tryz.func219 hmA (by kernel_rfl) (fun β=>by kernel_rfl)
end
abbrev i21 : Rat:=Rat.divInt 2 1
abbrev i41 : Rat:=Rat.divInt 4 1
def cuP (l k : RQ) : GQ:=gmul (cenQ k) (gconj (wayQ l))
def cuV (l k : RQ) : Rat:=(cuP l k).re * i21 + l.c
def cuN (l : RQ) : Rat:=gnorm (wayQ l)
def cuF (l k : RQ) : GQ:=gsub (cenQ k) (gscale (wayQ l) (cuV l k / (cuN l * i21)))
def cuR (k : RQ) : Rat:=fpr k k / (k.a * k.a)
def cuX (l k : RQ) : Rat:=(cuR k - cuV l k * cuV l k / (cuN l * i41)) / cuN l
def cuB (l : RQ) (t : Rat) : GQ:=gscale (gmul (wayQ l) (gint 0 1)) t
section
variable {l k : RQ} (hl : RSz KI l) (hk : RSz KI k) (h0 : k.a ≠ 0) (hn : cuN l ≠ 0)
theorem i41_sz : Sz 1 i41:=Sz.small (by decide)
theorem i21_sz : Sz 1 i21:=Sz.small (by decide)
theorem i21_ne : i21 ≠ 0:=n2_ne
theorem i41_ne : i41 ≠ 0:=of_decide_eq_true (by kernel_rfl : decide (i41 ≠ 0) = true)
theorem mul_ne {x y : Rat} (hx : x ≠ 0) (hy : y ≠ 0) : x * y ≠ 0:=fun h=>(Rat.mul_eq_zero.1 h).elim hx hy
include hl hk h0 in
theorem cuP_sz : GSz 5000 (cuP l k):=((cenQ_sz hk h0).mul (wayQ_sz hl).conj).mono (by decide)
include hl hk h0 in
theorem cuV_sz : Sz 5400 (cuV l k):=(((cuP_sz hl hk h0).1.mul i21_sz).add hl.c).mono (by decide)
include hl in
theorem cuN_sz : Sz 3700 (cuN l):=(wayQ_sz hl).norm.mono (by decide)
include hl hk h0 hn in
theorem cuQ_sz : Sz 9200 (cuV l k / (cuN l * i21)):=(div_sz (cuV_sz hl hk h0) ((cuN_sz hl).mul i21_sz) (mul_ne hn i21_ne)).mono (by decide)
include hl hk h0 hn in
theorem cuF_sz : GSz 12000 (cuF l k):=((cenQ_sz hk h0).sub ((wayQ_sz hl).scale (cuQ_sz hl hk h0 hn))).mono (by decide)
include hk h0 in
theorem cuR_sz : Sz 4000 (cuR k):=(div_sz (fpr_sz hk hk) (hk.a.mul hk.a) (mul_ne h0 h0)).mono (by decide)
include hl hk h0 hn in
theorem cuW_sz : Sz 14600 (cuV l k * cuV l k / (cuN l * i41)):=(div_sz ((cuV_sz hl hk h0).mul (cuV_sz hl hk h0)) ((cuN_sz hl).mul i41_sz) (mul_ne hn i41_ne)).mono (by decide)
include hl hk h0 hn in
theorem cuX_sz : Sz 22500 (cuX l k):=(div_sz ((cuR_sz hk h0).sub (cuW_sz hl hk h0 hn)) (cuN_sz hl) hn).mono (by decide)
noncomputable def cutE : List (Ev Tryz.prog) :=
  [(sCentre hk h0).e,(sWay hl).e,(sConj (wayQ l)).e,(sMul ((cenQ_sz hk h0).mono (by decide)) ((wayQ_sz hl).conj.mono (by decide))).e,(sParts (cuP l k)).e,
    (sMtNum 2).e,(sMtMul ((cuP_sz hl hk h0).1.mono (by decide)) (i21_sz.mono (by decide))).e,(sMtAdd (((cuP_sz hl hk h0).1.mul i21_sz).mono (by decide)) (hl.c.mono (by decide))).e,(sNorm ((wayQ_sz hl).mono (by decide))).e,
    (sMtNum 2).e,(sMtMul ((cuN_sz hl).mono (by decide)) (i21_sz.mono (by decide))).e,(sMtQuo ((cuV_sz hl hk h0).mono (by decide)) (((cuN_sz hl).mul i21_sz).mono (by decide)) (mul_ne hn i21_ne)).e,(sScale ((wayQ_sz hl).mono (by decide)) ((cuQ_sz hl hk h0 hn).mono (by decide))).e,
    (sSub ((cenQ_sz hk h0).mono (by decide)) (((wayQ_sz hl).scale (cuQ_sz hl hk h0 hn)).mono (by decide))).e,
    (sMtProd (hk.mono (by decide)) (hk.mono (by decide))).e,(sMtMul (hk.a.mono (by decide)) (hk.a.mono (by decide))).e,(sMtQuo ((fpr_sz hk hk).mono (by decide)) ((hk.a.mul hk.a).mono (by decide)) (mul_ne h0 h0)).e,
    (sMtMul ((cuV_sz hl hk h0).mono (by decide)) ((cuV_sz hl hk h0).mono (by decide))).e,(sMtNum 4).e,(sMtMul ((cuN_sz hl).mono (by decide)) (i41_sz.mono (by decide))).e,(sMtQuo (((cuV_sz hl hk h0).mul (cuV_sz hl hk h0)).mono (by decide)) (((cuN_sz hl).mul i41_sz).mono (by decide)) (mul_ne hn i41_ne)).e,
    (sMtSub ((cuR_sz hk h0).mono (by decide)) ((cuW_sz hl hk h0 hn).mono (by decide))).e,(sMtQuo (((cuR_sz hk h0).sub (cuW_sz hl hk h0 hn)).mono (by decide)) ((cuN_sz hl).mono (by decide)) hn).e]
abbrev cutNs : List (Nat × Nat):=[(1,6),(2,10),(3,7),(5,10),(6,10),(10,6),(11,11)]
noncomputable def sCutNo {n d a b : Nat} (h : RootB (cuX l k) n d a b) (ht : decide (Rat.divInt a b * Rat.divInt a b = cuX l k) = false) : Spec Tryz.prog :=
  Spec.auto Tryz.call119 [rgV 0,rgV 4] (rgT l ++ rgT k) (.tup [.c (.b (.v (.slice none 0 0))),nI' 230]) []
    (cutE hl hk h0 hn ++ [(sERoot ((cuX_sz hl hk h0 hn).mono (by decide)) h ht).e]) cutNs 800 Tryz.func119 hmA (by kernel_rfl) (fun β=>by kernel_rfl)
end
end Go.Proofs.YtimfgjcidigbiaaGreat.Y
end
section
namespace Go.Proofs.YtimfgjcidigbiaaGreat.Y
open Go Go.RowKit
set_option maxRecDepth 100000
structure RNew (P : Program) where
  f : FuncId
  en : Enters P f
  args : List SV
  src : Ob
  res : SV
  news : List Thing
  ok : ∀ β w,src.holds β w (β 0) → Calls P f (args.map (SV.den β)).toArray w fun e w'=>∃ xs : List Pl,(∀ x ∈ xs,∀ c,x.F c → w.heap.size ≤ c) ∧ e = .returned (res.den (extE β 1 xs)) ∧ newHold w' news xs ∧ Below w.heap.size w w'
  cl : (src.of (fun _=>false) && (args.all (SV.of fun k=>Nat.beq k 0) && res.of fun k=>Nat.ble 1 k && Nat.blt k (1 + news.length))) = true
def RNew.e {P : Program} (S : RNew P) : Ev P:=.dyn (fun o _ _=>isCallB o) fun _ xs ob=>lit (bkOfR xs) fun i=>lit ob.length fun n =>
  .call S.f S.en (fun β=>(S.args.map (SV.den fun _=>β i)).toArray) [(i,S.src)] n (S.res.ren fun k=>n + (k - 1)) S.news (fun β w h=>by
    have hc:=S.cl
    simp only [Bool.and_eq_true] at hc
    obtain ⟨c1,c2,c3⟩:=hc
    have h1 : S.src.holds β w (β i):=h _ (List.mem_singleton.2 rfl)
    refine (S.ok (fun _=>β i) w (Ob.holds_congr (q:=fun _=>false) (fun k hk=>by cases hk) _ c1 h1)).mono fun e w' ⟨xs,k1,k2,k3,k4⟩=>⟨xs,fun x hx c hc=>.inl (k1 x hx c hc),?_,k3,k4⟩
    rw [k2,SV.den_ren]
    congr 1
    refine SV.den_congr (fun k hk=>?_) _ c3
    have hlen:=(newHold_get k3).1
    rw [Bool.and_eq_true,Nat.ble_eq,Nat.blt_eq] at hk
    have h5 : k - 1 < xs.length:=by omega
    rw [extE_in (List.getElem?_eq_getElem h5)]
    have:=extE_in (β:=fun _=>β i) (n:=1) (List.getElem?_eq_getElem h5)
    rw [show 1 + (k - 1) = k by omega] at this
    exact this)
abbrev PSL : TypeId:=62
theorem slice3_run (w : World) (b : Nat) (c : Nat) (hc : 2 ≤ c) :
    (Instr.sliceAt PSL (.slice (some ⟨b,0,none⟩) 2 c) none (some (.int .i64 2)) (some (.int .i64 2))).run Tryz.prog w = .ok (.slice (some ⟨b,0,none⟩) 2 2) w:=by
  rw [run_sliceAt_slice w PSL _ _ _ _ (by kernel_rfl),run_slice_any w PSL _ _ _ (by kernel_rfl)]
  have hz : (sizeOf (Tryz.prog.elem PSL)).run Tryz.prog w = .ok 9 w:=by kernel_rfl
  have h1 : (2 : Int) ≤ (c : Int):=by omega
  simp [Instr.sliceBounds,run_sliceBound_if,h1,hz,Result.andThen,sliced,Addr.add]
def rdS3 (cs : List Lf) : Ev Tryz.prog:=.rd 22 (.slice PSL (.tmp 17) none (some (.tmp 19)) (some (.tmp 21))) (fun β=>[.slice (some ⟨(β 1).b,0,none⟩) 2 ((β 1).c 0),.int .i64 2,.int .i64 2]) [(1,.row cs PTT 2 9)] 0 (.one (.c (.b (.s 1 0 2 2)))) [] (fun β w h ρ op ho hx=>by
  have h1 : (Ob.row cs PTT 2 9).holds β w (β 1):=h _ (List.mem_singleton.2 rfl)
  obtain ⟨_,cur,_,_,h2,_⟩:=h1
  have h3 : ρ (.tmp 17) = .slice (some ⟨(β 1).b,0,none⟩) 2 ((β 1).c 0) ∧ ρ (.tmp 19) = .int .i64 2 ∧ ρ (.tmp 21) = .int .i64 2:=by simpa [Op.operands] using hx
  refine ⟨[],w,(fun _ h=>by cases h),?_,trivial,Below.refl _ _⟩
  rw [extE_nil]
  unfold execOp
  rw [ho]
  simp only [h3.1,h3.2.1,h3.2.2,Option.map_some,Option.map_none]
  simp [slice3_run w _ _ h2,Result.andThen]
  rfl)
def asS3 : Ev Tryz.prog:=.rd 2 (.assign (.tmp 22)) (fun β=>[.slice (some ⟨(β 1).b,0,none⟩) 2 2]) [] 0 (.one (.c (.b (.s 1 0 2 2)))) [] (fun β w _ ρ op ho hx=>by
  refine ⟨[],w,(fun _ h=>by cases h),?_,trivial,Below.refl _ _⟩
  have h1 : ρ (.tmp 22) = .slice (some ⟨(β 1).b,0,none⟩) 2 2:=by simpa [Op.operands] using hx
  rw [extE_nil]
  unfold execOp
  rw [ho]
  simp only [h1]
  rfl)
def cdOf : List Lf → List Cd
  | []=>[]
  | .b (.v x) :: l=>.v x :: cdOf l
  | _ :: l=>.v undef :: cdOf l
abbrev pt2 (p q : Pt) : List Cd:=cdOf (pw p ++ pw q)
theorem ptB_swap {p q : Pt} {r : Bool} (h : ptB p q = r) : ptB q p = r:=by
  rw [← h,Bool.eq_iff_iff,ptB_iff,ptB_iff]
  exact ⟨Eq.symm,Eq.symm⟩
noncomputable def srE {p q : Pt} (hp : FitP p) (hq : FitP q) (hne : ptB q p = false) {b : Bool} (h : decide (ordI q p < 0) = b) : List (Ev Tryz.prog):=[(sPCheck2 hp hq).e,(sPClone p q).e] ++ (match b,h with
  | false,h=>[(sSortNo hp hq h).e,(sCompact2 hne).e,rdS3 (pw p ++ pw q),asS3]
  | true,h=>[(sSortYes hp hq h).e,(sCompact2 (p:=q) (q:=p) (ptB_swap hne)).e,rdS3 (pw q ++ pw p),asS3])
theorem sort_row {a b : Pt} {w : World} {β : Env} {evs : List (Ev Tryz.prog)} {src : Ob} (h : ∀ β,(allS Tryz.prog Tryz.f120 [r2V] [src] evs [] 800 (.tup [.c (.b (.s 1 0 2 2)),nI' 0]) [(1,.row (pw a ++ pw b) PTT 2 9)] β).map Prod.fst = (allS Tryz.prog Tryz.f120 [r2V] [src] evs [] 800 (.tup [.c (.b (.s 1 0 2 2)),nI' 0]) [(1,.row (pw a ++ pw b) PTT 2 9)] β).map Prod.snd)
    (hB : ([src].all fun x=>x.of (fun k=>Nat.blt k 1) && x.own) = true) (hh : src.holds β w (β 0)) :
    Calls Tryz.prog 120 (([r2V] : List SV).map (SV.den β)).toArray w fun e u=>∃ xs : List Pl,(∀ x ∈ xs,∀ c,x.F c → w.heap.size ≤ c) ∧ e = .returned ((SV.tup [.c (.b (.y 1 18 2)),nI' 0]).den (extE β 1 xs)) ∧ newHold u [rowT PTT (pt2 a b)] xs ∧ Below w.heap.size w u:=by
  refine (sxN (P:=Tryz.prog) [r2V] [src] evs [] 800 (.tup [.c (.b (.s 1 0 2 2)),nI' 0]) [(1,.row (pw a ++ pw b) PTT 2 9)] Tryz.func120 hmA (fun β=>ok_of_maps (h β)) (by kernel_rfl) hB β w (fun k o ho=>?_)).mono ?_
  · cases k with
    | zero=>simp only [List.getElem?_cons_zero] at ho; obtain rfl:=Option.some.inj ho; exact hh
    | succ k=>simp at ho
  · rintro e u ⟨β',q,obj,e1,rfl,_,e4,e5,g,hl⟩
    obtain ⟨hone,cur,hcur,hcl,hn,hcm,hsz,htake⟩:=e5 _ (List.mem_cons_self ..)
    have hb:=hl _ (List.mem_cons_self ..) rfl (Nat.le_refl 1)
    refine ⟨[⟨(β' 1).b,fun i=>match i with | 18=>some ⟨(β' 1).b,0,none⟩ | _=>none,fun _=>2,fun c=>c = (β' 1).b,fun _=>undef⟩],fun x hx c hc=>?_,rfl,⟨⟨⟨rfl,cur,hcur,?_⟩,⟨?_,rfl⟩,fun c hc=>?_⟩,trivial⟩,g.bel⟩
    · obtain rfl:=List.mem_singleton.1 hx
      obtain rfl : c = (β' 1).b:=hc
      exact hb
    · have : (pt2 a b).length = 2 * 9:=rfl
      rw [this,htake]
      rfl
    · exact ⟨trivial,trivial,trivial,trivial,trivial,trivial,trivial,trivial,trivial,trivial,trivial,trivial,trivial,trivial,trivial,trivial,trivial,trivial,trivial⟩
    · obtain rfl : c = (β' 1).b:=hc
      exact heap_lt hcur
noncomputable def sSortP {p q : Pt} (hp : FitP p) (hq : FitP q) (hne : ptB q p = false) (h : decide (ordI q p < 0) = true) : RNew Tryz.prog :=
  ⟨120,Tryz.call120,[r2V],pr2 p q,.tup [.c (.b (.y 1 18 2)),nI' 0],[rowT PTT (pt2 q p)],fun β w hh=>sort_row (evs:=srE hp hq hne h) (fun β=>by kernel_rfl) (by kernel_rfl) hh,by kernel_rfl⟩
section
variable {l k : RQ} (hl : RSz KI l) (hk : RSz KI k) (h0 : k.a ≠ 0) (hn : cuN l ≠ 0)
abbrev plC (z : GQ) : List Cd:=[.v (.bool false),.r z.re,.r z.im]
def cutO (z w : GQ) : List (Nat × Ob):=[(55,.box [.b (.v (.bool false)),.b (.z 51 0),.b (.z 52 0),.b (.v (.bool false)),.b (.z 53 0),.b (.z 54 0)] PLT),(51,(ratM z.re).ob),(52,(ratM z.im).ob),(53,(ratM w.re).ob),(54,(ratM w.im).ob)]
include hl in
theorem cub_sz {t : Rat} {j : Nat} (h : Sz j t) : GSz (1811 + j) (cuB l t):=((wayQ_sz hl).mul gi_sz).scale h
noncomputable def cutY {n d a b : Nat} (h : RootB (cuX l k) n d a b) (ht : decide (Rat.divInt a b * Rat.divInt a b = cuX l k) = true) : List (Ev Tryz.prog) :=
  have hr:=sz_divInt h.b0 h.sa h.sb
  cutE hl hk h0 hn ++ [(sERoot ((cuX_sz hl hk h0 hn).mono (by decide)) h ht).e,(sInt 0 1 (by decide) (by decide)).e,(sMul ((wayQ_sz hl).mono (by decide)) (gi_sz.mono (by decide))).e,(sScale (((wayQ_sz hl).mul gi_sz).mono (by decide)) (hr.mono (by decide))).e,
    (sAdd ((cuF_sz hl hk h0 hn).mono (by decide)) ((cub_sz hl hr).mono (by decide))).e,(sSub ((cuF_sz hl hk h0 hn).mono (by decide)) ((cub_sz hl hr).mono (by decide))).e]
theorem cut_eqs {n d a b : Nat} (h : RootB (cuX l k) n d a b) (ht : decide (Rat.divInt a b * Rat.divInt a b = cuX l k) = true) (β : Env) :
    (allS Tryz.prog Tryz.f119 [rgV 0,rgV 4] ((rgT l ++ rgT k).map Thing.ob) (cutY hl hk h0 hn h ht) cutNs 800 (.tup [.c (.b (.s 55 0 2 2)),nI' 0]) (cutO (gadd (cuF l k) (cuB l (Rat.divInt a b))) (gsub (cuF l k) (cuB l (Rat.divInt a b)))) β).map Prod.fst = (allS Tryz.prog Tryz.f119 [rgV 0,rgV 4] ((rgT l ++ rgT k).map Thing.ob) (cutY hl hk h0 hn h ht) cutNs 800 (.tup [.c (.b (.s 55 0 2 2)),nI' 0]) (cutO (gadd (cuF l k) (cuB l (Rat.divInt a b))) (gsub (cuF l k) (cuB l (Rat.divInt a b)))) β).map Prod.snd:=by kernel_rfl
end
theorem cut_row {l k : RQ} {z z' : GQ} {evs : List (Ev Tryz.prog)} (h : ∀ β,(allS Tryz.prog Tryz.f119 [rgV 0,rgV 4] ((rgT l ++ rgT k).map Thing.ob) evs cutNs 800 (.tup [.c (.b (.s 55 0 2 2)),nI' 0]) (cutO z z') β).map Prod.fst = (allS Tryz.prog Tryz.f119 [rgV 0,rgV 4] ((rgT l ++ rgT k).map Thing.ob) evs cutNs 800 (.tup [.c (.b (.s 55 0 2 2)),nI' 0]) (cutO z z') β).map Prod.snd)
    (β : Env) (w : World) (hh : ∀ (i : Nat) (t : Thing),(rgT l ++ rgT k)[i]? = some t → t.D w (β i)) :
    Calls Tryz.prog 119 (([rgV 0,rgV 4] : List SV).map (SV.den β)).toArray w fun e u=>∃ xs : List Pl,freshS β w 8 xs ∧ e = .returned ((SV.tup [.c (.b (.y 8 6 2)),nI' 0]).den (extE β 8 xs)) ∧ newHold u [rowT PLT (plC z ++ plC z')] xs ∧ Below w.heap.size w u:=by
  refine (sx (P:=Tryz.prog) [rgV 0,rgV 4] ((rgT l ++ rgT k).map Thing.ob) evs cutNs 800 (.tup [.c (.b (.s 55 0 2 2)),nI' 0]) (cutO z z') Tryz.func119 hmA (fun β=>ok_of_maps (h β)) (by kernel_rfl) (by kernel_rfl) β w (fun i o ho=>?_)).mono ?_
  · rw [List.getElem?_map] at ho
    cases hx : (rgT l ++ rgT k)[i]? with
    | none=>rw [hx] at ho; cases ho
    | some t=>rw [hx] at ho; obtain rfl:=Option.some.inj ho; exact hh i t hx
  · rintro e u ⟨β',q',obj,e1,rfl,e2,e4,e5,g⟩
    have hor : ∀ (i : Nat) (x : Rat),(i,(ratM x).ob) ∈ cutO z z' → OR0 x u (β' i):=fun i x hi=>e5 _ hi
    have o1:=hor 51 z.re (by simp [cutO])
    have o2:=hor 52 z.im (by simp [cutO])
    have o3:=hor 53 z'.re (by simp [cutO])
    have o4:=hor 54 z'.im (by simp [cutO])
    obtain ⟨hone,hcur⟩:=e5 _ (List.mem_cons_self ..)
    dsimp only at hone hcur
    refine ⟨[⟨(β' 55).b,fun i=>match i with | 1=>(β' 51).v 0 | 2=>(β' 52).v 0 | 4=>(β' 53).v 0 | 5=>(β' 54).v 0 | 6=>some ⟨(β' 55).b,0,none⟩ | _=>none,fun _=>2,fun c=>c = (β' 55).b ∨ (β' 51).F c ∨ (β' 52).F c ∨ (β' 53).F c ∨ (β' 54).F c,fun _=>undef⟩],fun x hx c hc=>?_,rfl,⟨⟨⟨.inl rfl,_,hcur,rfl⟩,⟨⟨trivial,or_cd o1 rfl fun c hc=>.inr (.inl hc),or_cd o2 rfl fun c hc=>.inr (.inr (.inl hc)),trivial,or_cd o3 rfl fun c hc=>.inr (.inr (.inr (.inl hc))),or_cd o4 rfl fun c hc=>.inr (.inr (.inr (.inr (hc)))),trivial⟩,rfl⟩,fun c hc=>?_⟩,trivial⟩,g.bel⟩
    · obtain rfl:=List.mem_singleton.1 hx
      have h4 : ∀ p ∈ cutO z z',∀ c,(β' p.1).F c → w.heap.size ≤ c ∨ ∃ i,i < 8 ∧ (β i).F c:=e4
      rcases hc with rfl | hc | hc | hc | hc
      · exact h4 _ (List.mem_cons_self ..) _ ((hone.1 _).2 rfl)
      · exact h4 (51,(ratM z.re).ob) (by simp [cutO]) c hc
      · exact h4 (52,(ratM z.im).ob) (by simp [cutO]) c hc
      · exact h4 (53,(ratM z'.re).ob) (by simp [cutO]) c hc
      · exact h4 (54,(ratM z'.im).ob) (by simp [cutO]) c hc
    · rcases hc with rfl | hc | hc | hc | hc
      · exact heap_lt hcur
      · exact (or_stable _).lt u _ o1 c hc
      · exact (or_stable _).lt u _ o2 c hc
      · exact (or_stable _).lt u _ o3 c hc
      · exact (or_stable _).lt u _ o4 c hc
noncomputable def sCutYes {l k : RQ} (hl : RSz KI l) (hk : RSz KI k) (h0 : k.a ≠ 0) (hn : cuN l ≠ 0) {n d a b : Nat} (h : RootB (cuX l k) n d a b) (ht : decide (Rat.divInt a b * Rat.divInt a b = cuX l k) = true) : Spec Tryz.prog :=
  ⟨119,Tryz.call119,[rgV 0,rgV 4],rgT l ++ rgT k,.tup [.c (.b (.y 8 6 2)),nI' 0],[rowT PLT (plC (gadd (cuF l k) (cuB l (Rat.divInt a b))) ++ plC (gsub (cuF l k) (cuB l (Rat.divInt a b))))],cut_row (cut_eqs hl hk h0 hn h ht),by kernel_rfl⟩
end Go.Proofs.YtimfgjcidigbiaaGreat.Y
end
section
namespace Go.Proofs.YtimfgjcidigbiaaGreat.Y
open Go Go.RowKit
set_option maxRecDepth 100000
def ptCells (p : Pt) : List Value:=(pw p).map fun l=>l.den idE
def rdPt (d t : Nat) (cs : List Cd) (o : Nat) (p : Pt) (hc : ∀ j v,(ptCells p)[j]? = some v → cs[o + j]? = some (.v v)) (k n : Nat) : Ev Tryz.prog :=
  .rd d (.load PTT (.tmp t)) (fun β=>[.pointer (some ⟨(β k).b,o,none⟩)]) [(k,(rowT PTT cs).ob)] 0 (svP p) [] (fun β w h ρ op ho hx'=>by
    have h1 : RW PTT cs w (β k):=h (k,(rowT PTT cs).ob) (by simp)
    have h2 : ρ (.tmp t) = .pointer (some ⟨(β k).b,o,none⟩):=by simpa [Op.operands] using hx'
    refine ⟨[],w,(fun _ h=>by cases h),?_,trivial,Below.refl _ _⟩
    have hr : w.rangeAt (β k).b o (ptCells p):=fun j v hv=>rw_cell h1 (hc j v hv)
    have hl:=run_loadAt_mid (P:=Tryz.prog) w (β k).b o PTT _ _ hr Tryz.underlying29 (by kernel_rfl) (by kernel_rfl)
    rw [extE_nil]
    unfold execOp
    rw [ho]
    simp only [h2]
    simp [hl,Result.andThen]
    rfl)
def isPt0 (p : Pt) (cs : List Cd) (o : Nat) : Prop:=∀ j v,(ptCells p)[j]? = some v → cs[o + j]? = some (.v v)
theorem pt2_at0 (p q : Pt) : isPt0 p (pt2 p q) 0:=fun j v h=>by
  match j,h with
  | 0,h=>exact congrArg (Option.map Cd.v) h
  | 1,h=>exact congrArg (Option.map Cd.v) h
  | 2,h=>exact congrArg (Option.map Cd.v) h
  | 3,h=>exact congrArg (Option.map Cd.v) h
  | 4,h=>exact congrArg (Option.map Cd.v) h
  | 5,h=>exact congrArg (Option.map Cd.v) h
  | 6,h=>exact congrArg (Option.map Cd.v) h
  | 7,h=>exact congrArg (Option.map Cd.v) h
  | 8,h=>exact congrArg (Option.map Cd.v) h
  | j + 9,h=>cases h
def dPt0 (p q : Pt) : Ev Tryz.prog:=.dyn (fun o xs ob=>match o.op with
  | .load T (.tmp _)=>Nat.beq T PTT && isAd (xs.getD 0 undefS) && (match ob[(adOf (xs.getD 0 undefS)).1]? with | some (.th _)=>true | _=>false)
  | _=>false) fun o xs ob=>match o.op with
  | .load _ (.tmp t)=>lit (adOf (xs.getD 0 undefS)).1 fun k=>rdPt (o.dst.getD 0) t (pt2 p q) 0 p (pt2_at0 p q) k 0
  | _=>.eqv 0 undef undef rfl
def rdIdxPt (d t : Nat) (cs : List Cd) (ix : Operand) (n j : Nat) (hj : Nat.blt j n = true) (k : Nat) : Ev Tryz.prog :=
  .rd d (.indexAddr PSL (.tmp t) ix) (fun β=>[.slice ((β k).v cs.length) n ((β k).c cs.length),.int .i64 (j : Int)]) [(k,(rowT PTT cs).ob)] 0 (.one (.c (.b (.p k (j * 9))))) [] (fun β w h ρ op ho hx'=>by
    have h1 : RW PTT cs w (β k):=h (k,(rowT PTT cs).ob) (by simp)
    have h2 : ρ (.tmp t) = .slice (some ⟨(β k).b,0,none⟩) n ((β k).c cs.length) ∧ ρ ix = .int .i64 (j : Int):=by
      rw [h1.2.1.2] at hx'
      simpa [Op.operands] using hx'
    rw [Nat.blt_eq] at hj
    refine ⟨[],w,(fun _ h=>by cases h),?_,trivial,Below.refl _ _⟩
    rw [extE_nil]
    unfold execOp
    rw [ho]
    simp only [h2.1,h2.2]
    have hi:=run_indexAt_slice (P:=Tryz.prog) w PSL ⟨(β k).b,0,none⟩ n ((β k).c cs.length) .i64 (j : Int) (by kernel_rfl)
    have hsz : (sizeOf (Tryz.prog.elem PSL)).run Tryz.prog w = .ok 9 w:=by kernel_rfl
    rw [if_pos ⟨by omega,by omega⟩,hsz,Result.andThen_ok,Int.toNat_natCast] at hi
    have ha : (⟨(β k).b,0,none⟩ : Addr).add (j * 9) = ⟨(β k).b,j * 9,none⟩:=by
      simp [Addr.add]
      exact fun h=>h.symm
    rw [ha] at hi
    simp only [Sem.run_bind,hi,Result.andThen_ok]
    rfl)
def dIdxPt (cs : List Cd) : Ev Tryz.prog:=.dyn (fun o xs ob=>match o.op with
  | .indexAddr _ (.tmp _) _=>isY (xs.getD 0 undefS)
  | _=>false) fun o xs ob=>match o.op with
  | .indexAddr _ (.tmp t) ix=>lit (yOf (xs.getD 0 undefS)).1 fun k=>lit (yOf (xs.getD 0 undefS)).2 fun n=>lit (intS (xs.getD 1 undefS)) fun j=>if h : Nat.blt j n = true then rdIdxPt (o.dst.getD 0) t cs ix n j h k else .eqv 0 undef undef rfl
  | _=>.eqv 0 undef undef rfl
abbrev cq (x y z : Int) : RQ:=⟨Rat.divInt 1 1,gint x y,Rat.divInt z 1⟩
theorem cq_may {x y z : Int} (hx : x.natAbs < 256) (hy : y.natAbs < 256) (hz : z.natAbs < 256) (hp : decide ((rpow (cq x y z)).num.sign ≤ 0) = false) (h1 : decide ((rone (cq x y z)).a = (cq x y z).a) = true) (h2 : decide ((rone (cq x y z)).b.re = (cq x y z).b.re) = true) (h3 : decide ((rone (cq x y z)).b.im = (cq x y z).b.im) = true) (h4 : decide ((rone (cq x y z)).c = (cq x y z).c) = true) : MayC (cq x y z) :=
  ⟨⟨sz_lit1 (by decide),fit_int hx hy,sz_lit1 hz⟩,hp,rq_lit h1 h2 h3 h4⟩
theorem wt_eq {r s : RQ} (hp : decide ((rpow r).num.sign ≤ 0) = false) (e : rone r = s) : wtA r = .tup [.a (cC s),nI' 0]:=by
  rw [wtA,(wt_yes hp).1,(wt_yes hp).2,e]
theorem mx_eq {r s : RQ} (hp : wtB r = false) (e : rone r = s) (h : FitC s) : mxA r = .tup [.a (cC s),nI' 0]:=by
  rw [mxA,(mx_yes hp).1,(mx_yes hp).2,e,(ci_fit h).1,(ci_fit h).2]
theorem may00 : MayC (cq 0 0 (-1)):=cq_may (by decide) (by decide) (by decide) (by kernel_rfl) (by kernel_rfl) (by kernel_rfl) (by kernel_rfl) (by kernel_rfl)
theorem may10 : MayC (cq (-1) 0 0):=cq_may (by decide) (by decide) (by decide) (by kernel_rfl) (by kernel_rfl) (by kernel_rfl) (by kernel_rfl) (by kernel_rfl)
theorem may20 : MayC (cq (-2) 0 3):=cq_may (by decide) (by decide) (by decide) (by kernel_rfl) (by kernel_rfl) (by kernel_rfl) (by kernel_rfl) (by kernel_rfl)
theorem may025 : MayC (cq 0 0 (-25)):=cq_may (by decide) (by decide) (by decide) (by kernel_rfl) (by kernel_rfl) (by kernel_rfl) (by kernel_rfl) (by kernel_rfl)
theorem may6 : MayC (cq (-6) 0 11):=cq_may (by decide) (by decide) (by decide) (by kernel_rfl) (by kernel_rfl) (by kernel_rfl) (by kernel_rfl) (by kernel_rfl)
theorem may40 : MayC (cq (-4) 0 15):=cq_may (by decide) (by decide) (by decide) (by kernel_rfl) (by kernel_rfl) (by kernel_rfl) (by kernel_rfl) (by kernel_rfl)
theorem may04 : MayC (cq 0 4 15):=cq_may (by decide) (by decide) (by decide) (by kernel_rfl) (by kernel_rfl) (by kernel_rfl) (by kernel_rfl) (by kernel_rfl)
theorem may22 : MayC (cq (-2) 2 1):=cq_may (by decide) (by decide) (by decide) (by kernel_rfl) (by kernel_rfl) (by kernel_rfl) (by kernel_rfl) (by kernel_rfl)
noncomputable def sRnd (n m s x y z : Int) (hn : n.natAbs < 256) (hm : m.natAbs < 256) (hs : s.natAbs < 256) (hp : decide ((rpow (roundQ (gint n m) (Rat.divInt s 1))).num.sign ≤ 0) = false) (e : rone (roundQ (gint n m) (Rat.divInt s 1)) = cq x y z) : Spec Tryz.prog :=
  Spec.auto Tryz.call113 [.one (svI n),.one (svI m),.one (svI s)] [] (.one (.a (cC (cq x y z)))) []
    [(sR4Int n m (by omega) (by omega)).e,(sR3Int s (by omega)).e,((sCRRound (fit_int hn hm) (sz_lit1 hs)).conv (.tup [.a (cC (cq x y z)),nI' 0]) (wt_eq hp e)).e] [] 400 Tryz.func113 hmA (by kernel_rfl) (fun β=>by kernel_rfl)
noncomputable def k001 : Spec Tryz.prog:=sRnd 0 0 1 0 0 (-1) (by decide) (by decide) (by decide) (by kernel_rfl) (rq_lit (by kernel_rfl) (by kernel_rfl) (by kernel_rfl) (by kernel_rfl))
noncomputable def k101 : Spec Tryz.prog:=sRnd 1 0 1 (-1) 0 0 (by decide) (by decide) (by decide) (by kernel_rfl) (rq_lit (by kernel_rfl) (by kernel_rfl) (by kernel_rfl) (by kernel_rfl))
noncomputable def k201 : Spec Tryz.prog:=sRnd 2 0 1 (-2) 0 3 (by decide) (by decide) (by decide) (by kernel_rfl) (rq_lit (by kernel_rfl) (by kernel_rfl) (by kernel_rfl) (by kernel_rfl))
noncomputable def k0025 : Spec Tryz.prog:=sRnd 0 0 25 0 0 (-25) (by decide) (by decide) (by decide) (by kernel_rfl) (rq_lit (by kernel_rfl) (by kernel_rfl) (by kernel_rfl) (by kernel_rfl))
noncomputable def k6025 : Spec Tryz.prog:=sRnd 6 0 25 (-6) 0 11 (by decide) (by decide) (by decide) (by kernel_rfl) (rq_lit (by kernel_rfl) (by kernel_rfl) (by kernel_rfl) (by kernel_rfl))
noncomputable def k401 : Spec Tryz.prog:=sRnd 4 0 1 (-4) 0 15 (by decide) (by decide) (by decide) (by kernel_rfl) (rq_lit (by kernel_rfl) (by kernel_rfl) (by kernel_rfl) (by kernel_rfl))
noncomputable def k041 : Spec Tryz.prog:=sRnd 0 4 1 0 4 15 (by decide) (by decide) (by decide) (by kernel_rfl) (rq_lit (by kernel_rfl) (by kernel_rfl) (by kernel_rfl) (by kernel_rfl))
noncomputable def k227 : Spec Tryz.prog:=sRnd 2 2 7 (-2) 2 1 (by decide) (by decide) (by decide) (by kernel_rfl) (rq_lit (by kernel_rfl) (by kernel_rfl) (by kernel_rfl) (by kernel_rfl))
theorem fq_eq {x y : Rat} (e : decide (x = y) = true) (h : Fit y) : SV.tup [.a (fA x),nI' (ansK x)] = .tup [.a (fC y),nI' 0]:=by
  rw [of_decide_eq_true e,(fA_fit h).1,(fA_fit h).2]
theorem fit14 : Fit (Rat.divInt 1 4):=(sz_divInt (by decide) (sz_small (by decide)) (sz_small (by decide)) : Sz 1 (Rat.divInt 1 4)).fit (by decide)
noncomputable def kSquare : Spec Tryz.prog:=(sMSq may00 may10).conv (.tup [.a (fC (Rat.divInt 1 4)),nI' 0]) (fq_eq (by kernel_rfl) fit14)
noncomputable def kLies : Spec Tryz.prog:=(sMLies may00 may20 (s:=false) (by kernel_rfl) (c:=0) (by kernel_rfl)).conv (.tup [nI' 1,nI' 0]) (by kernel_rfl)
abbrev lnQ : RQ:=⟨Rat.divInt 0 1,gint 1 0,Rat.divInt (-2) 1⟩
theorem ln_fit : FitC lnQ:=⟨sz_lit1 (by decide),fit_int (by decide) (by decide),sz_lit1 (by decide)⟩
noncomputable def kAxis : Spec Tryz.prog:=(sMAxis may00 may20 (k:=.none) ⟨by kernel_rfl,by kernel_rfl⟩).conv (.tup [.a (cC lnQ),nI' 0]) (mx_eq (by kernel_rfl) (rq_lit (by kernel_rfl) (by kernel_rfl) (by kernel_rfl) (by kernel_rfl)) ln_fit)
noncomputable def kAcross : Spec Tryz.prog:=(sMAcross may00 may40 may04).conv (.tup [.a (cC (cq (-2) 2 1)),nI' 0]) (mx_eq (by kernel_rfl) (rq_lit (by kernel_rfl) (by kernel_rfl) (by kernel_rfl) (by kernel_rfl)) may22.fit)
theorem gq_lit {z w : GQ} (h1 : decide (z.re = w.re) = true) (h2 : decide (z.im = w.im) = true) : z = w:=by
  obtain ⟨a,b⟩:=z
  obtain ⟨c,d⟩:=w
  obtain rfl : a = c:=of_decide_eq_true h1
  obtain rfl : b = d:=of_decide_eq_true h2
  rfl
theorem cq_sz {x y z : Int} (hx : x.natAbs < 256) (hy : y.natAbs < 256) (hz : z.natAbs < 256) : RSz KI (cq x y z):=⟨(Sz.small (by decide)).mono (by decide),⟨(Sz.small hx).mono (by decide),(Sz.small hy).mono (by decide)⟩,(Sz.small hz).mono (by decide)⟩
abbrev lq (x y z : Int) : RQ:=⟨Rat.divInt 0 1,gint x y,Rat.divInt z 1⟩
theorem lq_sz {x y z : Int} (hx : x.natAbs < 256) (hy : y.natAbs < 256) (hz : z.natAbs < 256) : RSz KI (lq x y z):=⟨(Sz.small (by decide)).mono (by decide),⟨(Sz.small hx).mono (by decide),(Sz.small hy).mono (by decide)⟩,(Sz.small hz).mono (by decide)⟩
theorem pa_eq {p : Pt} (h : FitP p) : SV.tup [.a (lsX (paC p)),.c (.b (.v (.int .i64 (paK p))))] = .tup [.a (pw p),nI' 0]:=by
  rw [paC_raw,(pa_fit h).1,(pa_fit h).2.1,(pa_fit h).2.2,paK_fit h]
noncomputable def kToldP {p : Pt} (h : FitP p) : Spec Tryz.prog:=(sToldP p (h.sz.mono (by decide))).conv (.tup [.a (pw p),nI' 0]) (pa_eq h)
abbrev pA : Pt:=ptI 3 4
abbrev pB : Pt:=ptI 3 (-4)
theorem pA_fit : FitP pA:=ptI_fit (by decide) (by decide)
theorem pB_fit : FitP pB:=ptI_fit (by decide) (by decide)
theorem rt1 : RootB (cuX (lq 6 0 (-36)) (cq 0 0 (-25))) 4 9 2 3:=⟨by kernel_rfl,by kernel_rfl,by decide,by decide,by decide,by decide,dig_big (k:=1) (by decide) (by decide),dig_big (k:=1) (by decide) (by decide),by decide,Nat.le_trans (sz_small (by decide)) (by decide),Nat.le_trans (sz_small (by decide)) (by decide)⟩
theorem rt2 : RootB (cuX (lq 1 0 (-1)) (cq 0 0 (-1))) 3 4 1 2:=⟨by kernel_rfl,by kernel_rfl,by decide,by decide,by decide,by decide,dig_big (k:=1) (by decide) (by decide),dig_big (k:=1) (by decide) (by decide),by decide,Nat.le_trans (sz_small (by decide)) (by decide),Nat.le_trans (sz_small (by decide)) (by decide)⟩
abbrev plK : List Cd:=plC (gint 3 4) ++ plC (gint 3 (-4))
theorem one_ne0 : (cq 0 0 0).a ≠ 0:=of_decide_eq_true (by kernel_rfl : decide ((Rat.divInt 1 1 : Rat) ≠ 0) = true)
theorem cn1 : cuN (lq 6 0 (-36)) ≠ 0:=of_decide_eq_true (by kernel_rfl : decide (cuN (lq 6 0 (-36)) ≠ 0) = true)
theorem cn2 : cuN (lq 1 0 (-1)) ≠ 0:=of_decide_eq_true (by kernel_rfl : decide (cuN (lq 1 0 (-1)) ≠ 0) = true)
noncomputable def kCut : Spec Tryz.prog:=(sCutYes (l:=lq 6 0 (-36)) (k:=cq 0 0 (-25)) (lq_sz (by decide) (by decide) (by decide)) (cq_sz (by decide) (by decide) (by decide)) one_ne0 cn1 rt1 (by kernel_rfl)).newsAs [rowT PLT plK] (by
  have e1 : gadd (cuF (lq 6 0 (-36)) (cq 0 0 (-25))) (cuB (lq 6 0 (-36)) (Rat.divInt (2 : Nat) (3 : Nat))) = gint 3 4:=gq_lit (by kernel_rfl) (by kernel_rfl)
  have e2 : gsub (cuF (lq 6 0 (-36)) (cq 0 0 (-25))) (cuB (lq 6 0 (-36)) (Rat.divInt (2 : Nat) (3 : Nat))) = gint 3 (-4):=gq_lit (by kernel_rfl) (by kernel_rfl)
  show [rowT PLT (plC (gadd (cuF (lq 6 0 (-36)) (cq 0 0 (-25))) (cuB (lq 6 0 (-36)) (Rat.divInt (2 : Nat) (3 : Nat)))) ++ plC (gsub (cuF (lq 6 0 (-36)) (cq 0 0 (-25))) (cuB (lq 6 0 (-36)) (Rat.divInt (2 : Nat) (3 : Nat)))))] = _
  rw [e1,e2])
noncomputable def kCutNo : Spec Tryz.prog:=sCutNo (l:=lq 1 0 (-1)) (k:=cq 0 0 (-1)) (lq_sz (by decide) (by decide) (by decide)) (cq_sz (by decide) (by decide) (by decide)) one_ne0 cn2 rt2 (by kernel_rfl)
theorem a1_ne : decide ((Rat.divInt 1 1 : Rat) = 0) = false:=by kernel_rfl
noncomputable def kAx1 : Spec Tryz.prog:=(sAxNone may025 may6 a1_ne a1_ne (b:=false) (by kernel_rfl)).newsAs (rgT (lq 6 0 (-36))) (by
  have e : axQ (cq 0 0 (-25)) (cq (-6) 0 11) = lq 6 0 (-36):=rq_lit (by kernel_rfl) (by kernel_rfl) (by kernel_rfl) (by kernel_rfl)
  show rgT (axQ (cq 0 0 (-25)) (cq (-6) 0 11)) = _
  rw [e])
noncomputable def kAx2 : Spec Tryz.prog:=(sAxNone may00 may10 a1_ne a1_ne (b:=false) (by kernel_rfl)).newsAs (rgT (lq 1 0 (-1))) (by
  have e : axQ (cq 0 0 (-1)) (cq (-1) 0 0) = lq 1 0 (-1):=rq_lit (by kernel_rfl) (by kernel_rfl) (by kernel_rfl) (by kernel_rfl)
  show rgT (axQ (cq 0 0 (-1)) (cq (-1) 0 0)) = _
  rw [e])
noncomputable def kLs1 : Spec Tryz.prog:=(sMLies may025 may6 (s:=false) (by kernel_rfl) (c:=-1) (by kernel_rfl)).conv (.tup [nI' 2,nI' 0]) (by kernel_rfl)
noncomputable def kLs2 : Spec Tryz.prog:=(sMLies may00 may10 (s:=false) (by kernel_rfl) (c:=-1) (by kernel_rfl)).conv (.tup [nI' 2,nI' 0]) (by kernel_rfl)
noncomputable def kSort : RNew Tryz.prog:=sSortP (p:=pA) (q:=pB) pA_fit pB_fit (by kernel_rfl) (by kernel_rfl)
noncomputable def kPts1 : Spec Tryz.prog :=
  Spec.auto Tryz.call36 [frS (cq 0 0 (-25)),frS (cq (-6) 0 11)] [] (.tup [.c (.b (.y 0 18 2)),nI' 0]) [rowT PTT (pt2 pB pA)]
    ([kLs1.e,(sMtOf may025.fit).e,(sMtOf may6.fit).e] ++ sgR 69 a1_ne ++ [kAx1.e] ++ sgR 37 a1_ne ++ [kCut.e,dIdxP PLT plK,dPlace PLT plK,(kToldP pA_fit).e,.app appPt,dIdxP PLT plK,dPlace PLT plK,(kToldP pB_fit).e,.app appPt,kSort.e]) [(2,6)] 1500 Tryz.func36 hmA (by kernel_rfl) (fun β=>by kernel_rfl)
noncomputable def kPts2 : Spec Tryz.prog :=
  Spec.auto Tryz.call36 [frS (cq 0 0 (-1)),frS (cq (-1) 0 0)] [] (.tup [.c (.b (.v (.slice none 0 0))),nI' 230]) []
    ([kLs2.e,(sMtOf may00.fit).e,(sMtOf may10.fit).e] ++ sgR 69 a1_ne ++ [kAx2.e] ++ sgR 37 a1_ne ++ [kCutNo.e]) [(2,6)] 1500 Tryz.func36 hmA (by kernel_rfl) (fun β=>by kernel_rfl)
def sNum13 (k : Int) : Spec Tryz.prog:=Spec.auto Tryz.call41 [.one (nI' k)] [] (.one (nI' k)) [] [] [] 400 Tryz.func41 hmA (by kernel_rfl) (fun β=>by kernel_rfl)
def eqF14 : Ev Tryz.prog:=eqEvF (fR (Rat.divInt 1 4)) (fR (Rat.divInt 1 4)) true (R4.eq_iff.2 rfl)
def eqQ (r : RQ) : Ev Tryz.prog:=eqC1 (fR r.a) (fR r.b.re) (fR r.b.im) (fR r.c)
noncomputable def sKnown13 : Spec Tryz.prog :=
  Spec.auto Tryz.call35 [] [] (tB' true) []
    [k001.e,k101.e,kSquare.e,k201.e,kLies.e,k0025.e,k6025.e,kPts1.e,k101.e,kPts2.e,k201.e,kAxis.e,k401.e,k041.e,kAcross.e,(sR3Int 0 (by decide)).e,(sR4Int 1 0).e,(sR3Int (-2) (by decide)).e,
      (sR3Small 1 4 (by decide) (by decide) (by decide) (Nat.le_trans (sz_small (by decide)) (by decide)) (Nat.le_trans (sz_small (by decide)) (by decide))).e,eqF14,(sNum13 0).e,(sNum13 0).e,dIdxPt (pt2 pB pA),dPt0 pB pA,(sR7Int 3 (-4)).e,eqEvPt (ptB_iff.2 rfl : ptB pB pB = true),(sNum13 0).e,(sNum13 230).e,eqQ lnQ,(sNum13 0).e,k227.e,eqQ (cq (-2) 2 1),(sNum13 0).e]
    [(2,2007009),(3,8),(5,8),(6,4007009),(7,5008010),(9,60)] 3000 Tryz.func35 hmA (by kernel_rfl) (fun β=>by kernel_rfl)
end Go.Proofs.YtimfgjcidigbiaaGreat.Y
end
section
namespace Go.Proofs.YtimfgjcidigbiaaGreat.Y
open Go Go.RowKit
set_option maxRecDepth 100000
theorem _root_.Go.Proofs.YtimfgjcidigbiaaGreat.MeetNames_walk (W : World) :
    Calls Tryz.prog 6 #[] W fun e W'=>e = .returned (.bool true) ∧ Below W.heap.size W W' :=
  (spec_auto (args:=[]) (obs:=[]) (news:=[]) (res:=tB' true) (evs:=[sKnown13.e]) (Ns:=[]) (m:=400) Tryz.func6 hmA (fun β=>by kernel_rfl) (by kernel_rfl) idE W (fun k t h=>by simp at h)).mono fun e w' ⟨xs,_,he,_,hb⟩=>⟨by rw [he]; rfl,hb⟩
end Go.Proofs.YtimfgjcidigbiaaGreat.Y
end
section
namespace Go.Proofs.YtimfgjcidigbiaaGreat.Y
open Go Go.RowKit
set_option maxRecDepth 100000
abbrev c4 (p : Cp) : List Lf:=rL p.a ++ rL p.b ++ rL p.b' ++ rL p.c
abbrev c4S (p : Cp) : SV:=.one (.a (c4 p))
def smC (p : Cp) : Bool:=smB 60 p.a p.c && smB 60 p.b p.b'
section
abbrev sm2A : List SV:=[.one (svI 60),.one (.c (.b (.s 0 0 2 2)))]
abbrev sm3A : List SV:=[.one (svI 60),.one (.c (.b (.s 0 0 3 3)))]
noncomputable def smCE (p : Cp) {b : Bool} (h : smC p = b) : Ev Tryz.prog:=(sR4Small2 60 p.a p.c p.b p.b' h).e
theorem sm2_ok (p q : Cp) {b : Bool} (hb : (smC p && smC q) = b) (β : Env) (w : World) (hh : (Ob.box (c4 p ++ c4 q) CIT).holds β w (β 0)) :
    Calls Tryz.prog 34 (sm2A.map (SV.den β)).toArray w fun e w'=>e = .returned (.bool b) ∧ Below w.heap.size w w':=by
  cases h1 : smC p with
  | false =>
    rw [h1] at hb
    subst hb
    exact bspec_ok [smCE p h1] [(4,20)] 800 Tryz.func34 hmA (fun β=>by kernel_rfl) (by kernel_rfl) (fun β=>rfl) β w hh
  | true =>
    rw [h1] at hb
    have h2 : smC q = b:=hb
    cases b <;> exact bspec_ok [smCE p h1,smCE q h2] [(4,20)] 800 Tryz.func34 hmA (fun β=>by kernel_rfl) (by kernel_rfl) (fun β=>rfl) β w hh
noncomputable def sSmTwo (p q : Cp) {b : Bool} (hb : (smC p && smC q) = b) : BSpec Tryz.prog :=
  ⟨34,Tryz.call34,sm2A,c4 p ++ c4 q,CIT,.bool b,sm2_ok p q hb,by kernel_rfl,fun _=>rfl⟩
theorem sm3_ok (p q r : Cp) {b : Bool} (hb : (smC p && (smC q && smC r)) = b) (β : Env) (w : World) (hh : (Ob.box (c4 p ++ c4 q ++ c4 r) CIT).holds β w (β 0)) :
    Calls Tryz.prog 34 (sm3A.map (SV.den β)).toArray w fun e w'=>e = .returned (.bool b) ∧ Below w.heap.size w w':=by
  cases h1 : smC p with
  | false =>
    rw [h1] at hb
    subst hb
    exact bspec_ok [smCE p h1] [(4,20)] 800 Tryz.func34 hmA (fun β=>by kernel_rfl) (by kernel_rfl) (fun β=>rfl) β w hh
  | true =>
    rw [h1] at hb
    cases h2 : smC q with
    | false =>
      rw [h2] at hb
      subst hb
      exact bspec_ok [smCE p h1,smCE q h2] [(4,20)] 800 Tryz.func34 hmA (fun β=>by kernel_rfl) (by kernel_rfl) (fun β=>rfl) β w hh
    | true =>
      rw [h2] at hb
      have h3 : smC r = b:=hb
      cases b <;> exact bspec_ok [smCE p h1,smCE q h2,smCE r h3] [(4,20)] 800 Tryz.func34 hmA (fun β=>by kernel_rfl) (by kernel_rfl) (fun β=>rfl) β w hh
noncomputable def sSmThree (p q r : Cp) {b : Bool} (hb : (smC p && (smC q && smC r)) = b) : BSpec Tryz.prog :=
  ⟨34,Tryz.call34,sm3A,c4 p ++ c4 q ++ c4 r,CIT,.bool b,sm3_ok p q r hb,by kernel_rfl,fun _=>rfl⟩
noncomputable def ckR : Cp → Ev Tryz.prog
  | .ok r h=>(sRCk h).e
  | .no _ _ _ _ h=>(sRCkNo h).e
abbrev my2A : List SV:=[.one (.c (.b (.s 0 0 2 2)))]
abbrev my3A : List SV:=[.one (.c (.b (.s 0 0 3 3)))]
theorem my2_ok (p q : Cp) {b : Bool} (hb : (p.B && q.B) = b) (β : Env) (w : World) (hh : (Ob.box (c4 p ++ c4 q) CIT).holds β w (β 0)) :
    Calls Tryz.prog 37 (my2A.map (SV.den β)).toArray w fun e w'=>e = .returned (.bool b) ∧ Below w.heap.size w w':=by
  subst hb
  cases p with
  | no a b b' c hp=>exact bspec_ok [ckR (.no a b b' c hp)] [] 800 Tryz.func37 hmA (fun β=>by kernel_rfl) (by kernel_rfl) (fun β=>rfl) β w hh
  | ok r hr=>cases q with
    | no a b b' c hp=>exact bspec_ok [ckR (.ok r hr),ckR (.no a b b' c hp)] [] 800 Tryz.func37 hmA (fun β=>by kernel_rfl) (by kernel_rfl) (fun β=>rfl) β w hh
    | ok s hs=>exact bspec_ok [ckR (.ok r hr),ckR (.ok s hs)] [] 800 Tryz.func37 hmA (fun β=>by kernel_rfl) (by kernel_rfl) (fun β=>rfl) β w hh
noncomputable def sMayTwo (p q : Cp) {b : Bool} (hb : (p.B && q.B) = b) : BSpec Tryz.prog :=
  ⟨37,Tryz.call37,my2A,c4 p ++ c4 q,CIT,.bool b,my2_ok p q hb,by kernel_rfl,fun _=>rfl⟩
theorem my3_ok (p q r : Cp) {b : Bool} (hb : (p.B && (q.B && r.B)) = b) (β : Env) (w : World) (hh : (Ob.box (c4 p ++ c4 q ++ c4 r) CIT).holds β w (β 0)) :
    Calls Tryz.prog 37 (my3A.map (SV.den β)).toArray w fun e w'=>e = .returned (.bool b) ∧ Below w.heap.size w w':=by
  subst hb
  cases p with
  | no a b b' c hp=>exact bspec_ok [ckR (.no a b b' c hp)] [] 800 Tryz.func37 hmA (fun β=>by kernel_rfl) (by kernel_rfl) (fun β=>rfl) β w hh
  | ok s hs=>cases q with
    | no a b b' c hp=>exact bspec_ok [ckR (.ok s hs),ckR (.no a b b' c hp)] [] 800 Tryz.func37 hmA (fun β=>by kernel_rfl) (by kernel_rfl) (fun β=>rfl) β w hh
    | ok t ht=>cases r with
      | no a b b' c hp=>exact bspec_ok [ckR (.ok s hs),ckR (.ok t ht),ckR (.no a b b' c hp)] [] 800 Tryz.func37 hmA (fun β=>by kernel_rfl) (by kernel_rfl) (fun β=>rfl) β w hh
      | ok u hu=>exact bspec_ok [ckR (.ok s hs),ckR (.ok t ht),ckR (.ok u hu)] [] 800 Tryz.func37 hmA (fun β=>by kernel_rfl) (by kernel_rfl) (fun β=>rfl) β w hh
noncomputable def sMayThree (p q r : Cp) {b : Bool} (hb : (p.B && (q.B && r.B)) = b) : BSpec Tryz.prog :=
  ⟨37,Tryz.call37,my3A,c4 p ++ c4 q ++ c4 r,CIT,.bool b,my3_ok p q r hb,by kernel_rfl,fun _=>rfl⟩
end
def sPart13No : Spec Tryz.prog :=
  Spec.auto Tryz.call55 [.one (.a f0L),.one (nI' 2),.one (nI' 2),.one (.a f0L)] [] (tB' true) [] [eqEvF r40 r40 true (R4.eq_iff.2 rfl),(sNum13 2).e] [] 400 Tryz.func55 hmA (by kernel_rfl) (fun β=>by kernel_rfl)
noncomputable def sPart13 (x : Rat) : Spec Tryz.prog :=
  ⟨55,Tryz.call55,[.one (.a (fA x)),.one (nI' (ansK x)),.one (nI' 0),.one (.a (fC x))],[],tB' true,[],fun β w hh=>by
    by_cases h : Fit x
    · rw [(fA_fit h).1,(fA_fit h).2]
      exact spec_auto (evs:=[eFFit (iff_true_of h),eqEvF (fR x) (fR x) true (R4.eq_iff.2 rfl),(sNum13 0).e]) (Ns:=[]) (m:=400) Tryz.func55 hmA (fun β=>by kernel_rfl) (by kernel_rfl) β w hh
    · rw [(fA_not h).1,(fA_not h).2]
      exact spec_auto (evs:=[eFFit (iff_false_of h),eqEvF r40 r40 true (R4.eq_iff.2 rfl),(sNum13 4).e]) (Ns:=[]) (m:=400) Tryz.func55 hmA (fun β=>by kernel_rfl) (by kernel_rfl) β w hh,by kernel_rfl⟩
def sIs13N (k : Int) (a b b' c : R4) (hk : k ≠ 0) : Spec Tryz.prog :=
  Spec.auto Tryz.call45 [.one (.a c0C),.one (nI' k),.one (nI' k),.one (.a (rL a ++ rL b ++ rL b' ++ rL c))] [] (tB' true) [] [.eqv 12 (.bool (!(k == 0))) (.bool true) (by rw [beq_eq_false_iff_ne.2 hk]; rfl),eqC1 r40 r40 r40 r40,(sNum13 k).e,.eqv 20 (.bool (k == k)) (.bool true) (ieq_self _)] [] 400 Tryz.func45 hmA (by kernel_rfl) (fun β=>by kernel_rfl)
noncomputable def sIs13P (m : RQ) : Spec Tryz.prog :=
  Spec.auto Tryz.call45 [.one (.a (ciC m)),.one (nI' (ciK m)),.one (nI' 0),.one (.a (cC m))] [] (tB' true) []
    [(sCTold m).e,eqC1 (ciR m m.a) (ciR m m.b.re) (ciR m m.b.im) (ciR m m.c),(sNum13 (ciK m)).e,.eqv 34 (.bool (ciK m == ciK m)) (.bool true) (ieq_self _)] [] 400 Tryz.func45 hmA (by kernel_rfl) (fun β=>by kernel_rfl)
abbrev noK (b : Bool) : Int:=bif b then 7 else 0
noncomputable def sIs13 (r : RQ) {b : Bool} (hb : wtB r = b) : Spec Tryz.prog :=
  ⟨45,Tryz.call45,[.one (.a (mxC r)),.one (nI' (mxK r)),.one (nI' (noK b)),.one (.a (wxC r))],[],tB' true,[],fun β w hh=>by
    cases b with
    | true =>
      rw [(mx_no hb).1,(mx_no hb).2]
      exact (sIs13N 7 (wxR r (rone r).a) (wxR r (rone r).b.re) (wxR r (rone r).b.im) (wxR r (rone r).c) (by decide)).ok β w hh
    | false =>
      rw [(mx_yes hb).1,(mx_yes hb).2,wx_yes hb]
      exact (sIs13P (rone r)).ok β w hh,by kernel_rfl⟩
def sIs13No : Spec Tryz.prog:=sIs13N 2 r40 r40 r40 r40 (by decide)
end Go.Proofs.YtimfgjcidigbiaaGreat.Y
end
section
namespace Go.Proofs.YtimfgjcidigbiaaGreat.Y
open Go Go.RowKit
set_option maxRecDepth 100000
abbrev twN : List (Nat × Nat):=[(11,6),(16,55)]
noncomputable def tw1 (p q : Cp) (h : (smC p && smC q) = false) : Spec Tryz.prog :=
  Spec.auto Tryz.call8 [c4S p,c4S q] [] (tB' true) [] [(sSmTwo p q h).e,sKnown13.e] twN 2000 Tryz.func8 hmA (by kernel_rfl) (fun β=>by kernel_rfl)
noncomputable def tw2E (p q : Cp) (h : (smC p && smC q) = true) (k : (p.B && q.B) = false) : List (Ev Tryz.prog) :=
  [(sSmTwo p q h).e,(sMProdNo p q k).e,(sMSqNo p q k).e,(sMLiesNo p q k).e,(sMUpNo p q k).e,(sMAxisNo p q k).e,(sMOverNo p q k).e,(sMayTwo p q k).e,sPart13No.e,sPart13No.e,(sNum13 2).e,(sNum13 2).e,sIs13No.e,sIs13No.e,sKnown13.e]
noncomputable def tw2 (p q : Cp) (h : (smC p && smC q) = true) (k : (p.B && q.B) = false) : Spec Tryz.prog :=
  ⟨8,Tryz.call8,[c4S p,c4S q],[],tB' true,[],fun β w hh=>by
    cases p <;> cases q <;> exact spec_auto (evs:=tw2E _ _ h k) (Ns:=twN) (m:=2000) Tryz.func8 hmA (fun β=>by kernel_rfl) (by kernel_rfl) β w hh,by kernel_rfl⟩
theorem may_wt {f : RQ} (h : MayC f) : wtB f = false:=h.pow
theorem mx_may {f : RQ} (h : MayC f) : mxA f = .tup [.a (ciC f),nI' (ciK f)]:=by
  rw [mxA,(mx_yes (may_wt h)).1,(mx_yes (may_wt h)).2,h.one]
theorem ov_wt {f g : RQ} (hf : MayC f) (hg : MayC g) : wtB (ovQ f g) = false:=by
  unfold wtB
  rw [ov_pow hf.ff]
  exact hg.pow
section
variable {f g : RQ} (hf : MayC f) (hg : MayC g)
noncomputable def axS : (k : AxK) → axAt f g k → Spec Tryz.prog
  | .both,h=>sMAxis hf hg h
  | .one,h=>(sMAxis hf hg h).conv (.tup [.a (ciC f),nI' (ciK f)]) (mx_may hf)
  | .two,h=>(sMAxis hf hg h).conv (.tup [.a (ciC g),nI' (ciK g)]) (mx_may hg)
  | .none,h=>sMAxis hf hg h
noncomputable def axI (f g : RQ) {b : Bool} (hb : wtB (axQ f g) = b) : AxK → Spec Tryz.prog
  | .both=>sIs13N 7 r40 r40 r40 r40 (by decide)
  | .one=>sIs13P f
  | .two=>sIs13P g
  | .none=>sIs13 (axQ f g) hb
noncomputable def axR2 (b : Bool) (hb : wtB (axQ f g) = b) : (k : AxK) → axAt f g k → Spec Tryz.prog
  | .both,h=>sR13Axis hf.szh hg.szh h
  | .one,h=>sR13Axis hf.szh hg.szh h
  | .two,h=>sR13Axis hf.szh hg.szh h
  | .none,h=>(sR13Axis hf.szh hg.szh h).conv (.tup [.a (wxC (axQ f g)),.c (.b (.v (.bool (!b))))]) (by rw [← hb]; rfl)
noncomputable def ovS : Spec Tryz.prog:=(sMOver hf hg).conv (.tup [.a (ciC (rone (ovQ f g))),nI' (ciK (rone (ovQ f g)))]) (by
  show mxA (ovQ f g) = _
  rw [mxA,(mx_yes (ov_wt hf hg)).1,(mx_yes (ov_wt hf hg)).2])
noncomputable def ovR2 : Spec Tryz.prog:=(sR13Over hf.szh hg.szh hf.ff (ov_wt hf hg)).conv (.one (.a (cC (rone (ovQ f g))))) (by
  show SV.one (SC.a (wxC (ovQ f g))) = _
  rw [wx_yes (ov_wt hf hg)])
noncomputable def tw3E (h : (smC (.ok f hf) && smC (.ok g hg)) = true) {s : Bool} (hs : eqRone f g = s) {c : Int} (hc : cmpQ (fsq f g) one1 = c) {u : Bool} (hu : decide (fpr f g = 0) = u) {b : Bool} (hb : wtB (axQ f g) = b) (k : AxK) (hk : axAt f g k) : List (Ev Tryz.prog) :=
  [(sSmTwo (.ok f hf) (.ok g hg) h).e,(sMProd hf hg).e,(sMSq hf hg).e,(sMLies hf hg hs hc).e,(sMUp hf hg hu).e,(axS hf hg k hk).e,(ovS hf hg).e,(sMayTwo (.ok f hf) (.ok g hg) rfl).e,
    (sR13Of f).e,(sR13Of g).e,(sR13Prod (hf.szh.mono (by decide)) (hg.szh.mono (by decide))).e,(axR2 hf hg b hb k hk).e,
    (sPart13 (fpr f g)).e,(sR13Sq (hf.szh.mono (by decide)) (hg.szh.mono (by decide)) (ffgg hf hg)).e,(sPart13 (fsq f g)).e,(sR13Lies hf.szh hg.szh (ffgg hf hg) hs hc).e,.eqv 141 (.bool (lieK s c == lieK s c)) (.bool true) (ieq_self _),(sNum13 0).e,
    (sR3Sign (x:=fpr f g) rfl).e,.eqv 152 (.bool ((fpr f g).num.sign == 0)) (.bool u) (sign_lit hu),.eqv 153 (.bool (u == u)) (.bool true) (by simp),(sNum13 0).e,(axI f g hb k).e,(ovR2 hf hg).e,(sIs13P (rone (ovQ f g))).e,sKnown13.e]
abbrev twO (hf : MayC f) (hg : MayC g) (β : Env) (w : World) : Prop:=Calls Tryz.prog 8 (([c4S (.ok f hf),c4S (.ok g hg)] : List SV).map (SV.den β)).toArray w fun e w'=>∃ xs : List Pl,freshS β w 0 xs ∧ e = .returned ((tB' true).den (extE β 0 xs)) ∧ newHold w' [] xs ∧ Below w.heap.size w w'
theorem tw_both (h : (smC (.ok f hf) && smC (.ok g hg)) = true) {s : Bool} (hs : eqRone f g = s) {c : Int} (hc : cmpQ (fsq f g) one1 = c) {u : Bool} (hu : decide (fpr f g = 0) = u) {b : Bool} (hb : wtB (axQ f g) = b) (hk : axAt f g .both) (β : Env) (w : World) (hh : ∀ (k : Nat) (t : Thing),([] : List Thing)[k]? = some t → t.D w (β k)) : twO hf hg β w :=
  spec_auto (evs:=tw3E hf hg h hs hc hu hb .both hk) (Ns:=twN) (m:=2000) Tryz.func8 hmA (fun β=>by kernel_rfl) (by kernel_rfl) β w hh
theorem tw_one (h : (smC (.ok f hf) && smC (.ok g hg)) = true) {s : Bool} (hs : eqRone f g = s) {c : Int} (hc : cmpQ (fsq f g) one1 = c) {u : Bool} (hu : decide (fpr f g = 0) = u) {b : Bool} (hb : wtB (axQ f g) = b) (hk : axAt f g .one) (β : Env) (w : World) (hh : ∀ (k : Nat) (t : Thing),([] : List Thing)[k]? = some t → t.D w (β k)) : twO hf hg β w :=
  spec_auto (evs:=tw3E hf hg h hs hc hu hb .one hk) (Ns:=twN) (m:=2000) Tryz.func8 hmA (fun β=>by kernel_rfl) (by kernel_rfl) β w hh
theorem tw_two (h : (smC (.ok f hf) && smC (.ok g hg)) = true) {s : Bool} (hs : eqRone f g = s) {c : Int} (hc : cmpQ (fsq f g) one1 = c) {u : Bool} (hu : decide (fpr f g = 0) = u) {b : Bool} (hb : wtB (axQ f g) = b) (hk : axAt f g .two) (β : Env) (w : World) (hh : ∀ (k : Nat) (t : Thing),([] : List Thing)[k]? = some t → t.D w (β k)) : twO hf hg β w :=
  spec_auto (evs:=tw3E hf hg h hs hc hu hb .two hk) (Ns:=twN) (m:=2000) Tryz.func8 hmA (fun β=>by kernel_rfl) (by kernel_rfl) β w hh
theorem tw_noneT (h : (smC (.ok f hf) && smC (.ok g hg)) = true) {s : Bool} (hs : eqRone f g = s) {c : Int} (hc : cmpQ (fsq f g) one1 = c) {u : Bool} (hu : decide (fpr f g = 0) = u) (hb : wtB (axQ f g) = true) (hk : axAt f g .none) (β : Env) (w : World) (hh : ∀ (k : Nat) (t : Thing),([] : List Thing)[k]? = some t → t.D w (β k)) : twO hf hg β w :=
  spec_auto (evs:=tw3E hf hg h hs hc hu hb .none hk) (Ns:=twN) (m:=2000) Tryz.func8 hmA (fun β=>by kernel_rfl) (by kernel_rfl) β w hh
theorem tw_noneF (h : (smC (.ok f hf) && smC (.ok g hg)) = true) {s : Bool} (hs : eqRone f g = s) {c : Int} (hc : cmpQ (fsq f g) one1 = c) {u : Bool} (hu : decide (fpr f g = 0) = u) (hb : wtB (axQ f g) = false) (hk : axAt f g .none) (β : Env) (w : World) (hh : ∀ (k : Nat) (t : Thing),([] : List Thing)[k]? = some t → t.D w (β k)) : twO hf hg β w :=
  spec_auto (evs:=tw3E hf hg h hs hc hu hb .none hk) (Ns:=twN) (m:=2000) Tryz.func8 hmA (fun β=>by kernel_rfl) (by kernel_rfl) β w hh
noncomputable def tw3 (h : (smC (.ok f hf) && smC (.ok g hg)) = true) (k : AxK) (hk : axAt f g k) : Spec Tryz.prog :=
  ⟨8,Tryz.call8,[c4S (.ok f hf),c4S (.ok g hg)],[],tB' true,[],fun β w hh=>by
    cases k with
    | both=>exact tw_both hf hg h rfl rfl rfl rfl hk β w hh
    | one=>exact tw_one hf hg h rfl rfl rfl rfl hk β w hh
    | two=>exact tw_two hf hg h rfl rfl rfl rfl hk β w hh
    | none=>cases hb : wtB (axQ f g) with
      | true=>exact tw_noneT hf hg h rfl rfl rfl hb hk β w hh
      | false=>exact tw_noneF hf hg h rfl rfl rfl hb hk β w hh,by kernel_rfl⟩
end
theorem _root_.Go.Proofs.YtimfgjcidigbiaaGreat.MeetTwo_walk (p q : Cp) (W : World) :
    Calls Tryz.prog 8 #[.agg (p.a.V ++ p.b.V ++ p.b'.V ++ p.c.V).toArray,.agg (q.a.V ++ q.b.V ++ q.b'.V ++ q.c.V).toArray] W fun e W'=>e = .returned (.bool true) ∧ Below W.heap.size W W':=by
  cases h : (smC p && smC q) with
  | false=>exact spec_yes (tw1 p q h) rfl rfl W
  | true =>
    cases k : (p.B && q.B) with
    | false=>exact spec_yes (tw2 p q h k) rfl rfl W
    | true =>
      cases p with
      | no=>cases k
      | ok f hf=>cases q with
        | no=>cases k
        | ok g hg =>
          obtain ⟨x,hx⟩:=axAt_all f g
          exact spec_yes (tw3 hf hg h x hx) rfl rfl W
end Go.Proofs.YtimfgjcidigbiaaGreat.Y
end
section
namespace Go.Proofs.YtimfgjcidigbiaaGreat.Y
open Go Go.RowKit
set_option maxRecDepth 100000
abbrev mmN : List (Nat × Nat):=[(1,4006007),(7,10012014)]
abbrev mmA (p q : Cp) (a b : Fn) : List SV:=[c4S p,c4S q,.one (.a (rL a.r ++ rL b.r))]
noncomputable def mm1 (p q : Cp) (a b : Fn) (h : (smC p && smC q) = false) : Spec Tryz.prog :=
  Spec.auto Tryz.call7 (mmA p q a b) [] (tB' true) [] [(sSmTwo p q h).e,sKnown13.e] mmN 2000 Tryz.func7 hmA (by kernel_rfl) (fun β=>by kernel_rfl)
noncomputable def mm2 (p q : Cp) (a b : Fn) (h : (smC p && smC q) = true) (k : smB 60 a.r b.r = false) : Spec Tryz.prog :=
  Spec.auto Tryz.call7 (mmA p q a b) [] (tB' true) [] [(sSmTwo p q h).e,(sR4Small 60 a.r b.r k).e,sKnown13.e] mmN 2000 Tryz.func7 hmA (by kernel_rfl) (fun β=>by kernel_rfl)
noncomputable def mm3E (p q : Cp) (a b : Fn) (h : (smC p && smC q) = true) (k : smB 60 a.r b.r = true) (n : (p.B && (q.B && (a.B && b.B))) = false) : List (Ev Tryz.prog):=[(sSmTwo p q h).e,(sR4Small 60 a.r b.r k).e,(sMMixNo p q a b n).e]
theorem mm3a (p q : Cp) (a b : Fn) (h : (smC p && smC q) = true) (k : smB 60 a.r b.r = true) (n : (p.B && (q.B && (a.B && b.B))) = false) (n1 : (p.B && q.B) = false) (β : Env) (w : World) (hh : ∀ (k : Nat) (t : Thing),([] : List Thing)[k]? = some t → t.D w (β k)) :
    Calls Tryz.prog 7 ((mmA p q a b).map (SV.den β)).toArray w fun e w'=>∃ xs : List Pl,freshS β w 0 xs ∧ e = .returned ((tB' true).den (extE β 0 xs)) ∧ newHold w' [] xs ∧ Below w.heap.size w w':=by
  cases p <;> cases q <;> exact spec_auto (evs:=mm3E _ _ a b h k n ++ [(sMayTwo _ _ n1).e,sIs13No.e,sKnown13.e]) (Ns:=mmN) (m:=2000) Tryz.func7 hmA (fun β=>by kernel_rfl) (by kernel_rfl) β w hh
theorem mm3b (p q : Cp) (a b : Fn) (h : (smC p && smC q) = true) (k : smB 60 a.r b.r = true) (n : (p.B && (q.B && (a.B && b.B))) = false) (n1 : (p.B && q.B) = true) (n2 : a.B = false) (β : Env) (w : World) (hh : ∀ (k : Nat) (t : Thing),([] : List Thing)[k]? = some t → t.D w (β k)) :
    Calls Tryz.prog 7 ((mmA p q a b).map (SV.den β)).toArray w fun e w'=>∃ xs : List Pl,freshS β w 0 xs ∧ e = .returned ((tB' true).den (extE β 0 xs)) ∧ newHold w' [] xs ∧ Below w.heap.size w w':=by
  cases p <;> cases q <;> exact spec_auto (evs:=mm3E _ _ a b h k n ++ [(sMayTwo _ _ n1).e,(sR3MayQ a n2).e,sIs13No.e,sKnown13.e]) (Ns:=mmN) (m:=2000) Tryz.func7 hmA (fun β=>by kernel_rfl) (by kernel_rfl) β w hh
theorem mm3c (p q : Cp) (a b : Fn) (h : (smC p && smC q) = true) (k : smB 60 a.r b.r = true) (n : (p.B && (q.B && (a.B && b.B))) = false) (n1 : (p.B && q.B) = true) (n2 : a.B = true) (n3 : b.B = false) (β : Env) (w : World) (hh : ∀ (k : Nat) (t : Thing),([] : List Thing)[k]? = some t → t.D w (β k)) :
    Calls Tryz.prog 7 ((mmA p q a b).map (SV.den β)).toArray w fun e w'=>∃ xs : List Pl,freshS β w 0 xs ∧ e = .returned ((tB' true).den (extE β 0 xs)) ∧ newHold w' [] xs ∧ Below w.heap.size w w':=by
  cases p <;> cases q <;> exact spec_auto (evs:=mm3E _ _ a b h k n ++ [(sMayTwo _ _ n1).e,(sR3MayQ a n2).e,(sR3MayQ b n3).e,sIs13No.e,sKnown13.e]) (Ns:=mmN) (m:=2000) Tryz.func7 hmA (fun β=>by kernel_rfl) (by kernel_rfl) β w hh
noncomputable def mm3 (p q : Cp) (a b : Fn) (h : (smC p && smC q) = true) (k : smB 60 a.r b.r = true) (n : (p.B && (q.B && (a.B && b.B))) = false) : Spec Tryz.prog :=
  ⟨7,Tryz.call7,mmA p q a b,[],tB' true,[],fun β w hh=>by
    cases n1 : (p.B && q.B) with
    | false=>exact mm3a p q a b h k n n1 β w hh
    | true=>cases n2 : a.B with
      | false=>exact mm3b p q a b h k n n1 n2 β w hh
      | true=>cases n3 : b.B with
        | false=>exact mm3c p q a b h k n n1 n2 n3 β w hh
        | true =>
          rw [Bool.and_eq_true] at n1
          rw [n1.1,n1.2,n2,n3] at n
          exact absurd n (by decide),by kernel_rfl⟩
section
variable {f g : RQ} (hf : MayC f) (hg : MayC g) {s t : Rat} (hs : Fit s) (ht : Fit t)
noncomputable def mm4E (h : (smC (.ok f hf) && smC (.ok g hg)) = true) (k : smB 60 (fR s) (fR t) = true) {b : Bool} (hb : wtB (pls f g s t) = b) : List (Ev Tryz.prog) :=
  [(sSmTwo (.ok f hf) (.ok g hg) h).e,(sR4Small 60 (fR s) (fR t) k).e,(sMMix hf hg hs ht).e,(sMayTwo (.ok f hf) (.ok g hg) rfl).e,(sR3MayQ (.ok s hs) rfl).e,(sR3MayQ (.ok t ht) rfl).e,
    (sR13Of f).e,(sR13Of g).e,(sR13Mixed (hf.szh.mono (by decide)) (hg.szh.mono (by decide)) (hs.sz.mono (by decide)) (ht.sz.mono (by decide))).e,(sR13Circle ((pls_sz hf.szh hg.szh hs.sz ht.sz).mono (by decide)) hb).e,(sIs13 (pls f g s t) hb).e,sKnown13.e]
noncomputable def mm4 (h : (smC (.ok f hf) && smC (.ok g hg)) = true) (k : smB 60 (fR s) (fR t) = true) {b : Bool} (hb : wtB (pls f g s t) = b) : Spec Tryz.prog :=
  ⟨7,Tryz.call7,mmA (.ok f hf) (.ok g hg) (.ok s hs) (.ok t ht),[],tB' true,[],fun β w hh=>by
    cases b <;> exact spec_auto (evs:=mm4E hf hg hs ht h k hb) (Ns:=mmN) (m:=2000) Tryz.func7 hmA (fun β=>by kernel_rfl) (by kernel_rfl) β w hh,by kernel_rfl⟩
end
theorem _root_.Go.Proofs.YtimfgjcidigbiaaGreat.MeetMixes_walk (p q : Cp) (a b : Fn) (W : World) :
    Calls Tryz.prog 7 #[.agg (p.a.V ++ p.b.V ++ p.b'.V ++ p.c.V).toArray,.agg (q.a.V ++ q.b.V ++ q.b'.V ++ q.c.V).toArray,.agg (a.r.V ++ b.r.V).toArray] W fun e W'=>e = .returned (.bool true) ∧ Below W.heap.size W W':=by
  cases h : (smC p && smC q) with
  | false=>exact spec_yes (mm1 p q a b h) rfl rfl W
  | true =>
    cases k : smB 60 a.r b.r with
    | false=>exact spec_yes (mm2 p q a b h k) rfl rfl W
    | true =>
      cases n : (p.B && (q.B && (a.B && b.B))) with
      | false=>exact spec_yes (mm3 p q a b h k n) rfl rfl W
      | true =>
        cases p with
        | no=>cases n
        | ok f hf=>cases q with
          | no=>cases n
          | ok g hg=>cases a with
            | no=>cases n
            | ok s hs=>cases b with
              | no=>cases n
              | ok t ht=>exact spec_yes (mm4 hf hg hs ht h k rfl) rfl rfl W
end Go.Proofs.YtimfgjcidigbiaaGreat.Y
end
section
namespace Go.Proofs.YtimfgjcidigbiaaGreat.Y
open Go Go.RowKit
set_option maxRecDepth 100000
abbrev thA (p q r : Cp) : List SV:=[c4S p,c4S q,c4S r]
noncomputable def th1 (p q r : Cp) (h : (smC p && (smC q && smC r)) = false) : Spec Tryz.prog :=
  Spec.auto Tryz.call9 (thA p q r) [] (tB' true) [] [(sSmThree p q r h).e,sKnown13.e] [] 2000 Tryz.func9 hmA (by kernel_rfl) (fun β=>by kernel_rfl)
noncomputable def th2E (p q r : Cp) (h : (smC p && (smC q && smC r)) = true) (k : (p.B && (q.B && r.B)) = false) : List (Ev Tryz.prog) :=
  [(sSmThree p q r h).e,(sMBundleNo p q r k).e,(sMAcrossNo p q r k).e,(sMayThree p q r k).e,(sNum13 2).e,sIs13No.e,sKnown13.e]
noncomputable def th2 (p q r : Cp) (h : (smC p && (smC q && smC r)) = true) (k : (p.B && (q.B && r.B)) = false) : Spec Tryz.prog :=
  ⟨9,Tryz.call9,thA p q r,[],tB' true,[],fun β w hh=>by
    cases p <;> cases q <;> cases r <;> exact spec_auto (evs:=th2E _ _ _ h k) (Ns:=[]) (m:=2000) Tryz.func9 hmA (fun β=>by kernel_rfl) (by kernel_rfl) β w hh,by kernel_rfl⟩
theorem ac_zero {f g h : RQ} (h1 : mn 0 f g h 1 2 3 = 0) (h2 : -(mn 0 f g h 0 2 3) = 0) (h3 : mn 0 f g h 0 1 3 = 0) (h4 : -(mn 0 f g h 0 1 2) = 0) : acQ f g h = ⟨0,⟨0,0⟩,0⟩:=by
  obtain ⟨k,hk⟩ : ∃ k : Rat,k = (Rat.divInt (-2) 1)⁻¹:=⟨_,rfl⟩
  unfold acQ mnQ
  simp only [mn,mt,colQ,upQ,Rat.div_def,← hk] at h1 h2 h3 h4 ⊢
  have e1 : 0 + f.b.re * (g.b.im * (h.a * k) - g.a * k * h.b.im) + f.b.im * (g.a * k * h.b.re - g.b.re * (h.a * k)) + f.a * k * (g.b.re * h.b.im - g.b.im * h.b.re) = 0:=by grind
  have e2 : -(0 + f.c * k * (g.b.im * (h.a * k) - g.a * k * h.b.im) + f.b.im * (g.a * k * (h.c * k) - g.c * k * (h.a * k)) + f.a * k * (g.c * k * h.b.im - g.b.im * (h.c * k))) = 0:=by grind
  have e3 : 0 + f.c * k * (g.b.re * (h.a * k) - g.a * k * h.b.re) + f.b.re * (g.a * k * (h.c * k) - g.c * k * (h.a * k)) + f.a * k * (g.c * k * h.b.re - g.b.re * (h.c * k)) = 0:=by grind
  have e4 : -(0 + f.c * k * (g.b.re * h.b.im - g.b.im * h.b.re) + f.b.re * (g.b.im * (h.c * k) - g.c * k * h.b.im) + f.b.im * (g.c * k * h.b.re - g.b.re * (h.c * k))) = 0:=by grind
  rw [e1,e2,e3,e4]
theorem zero_wt : wtB ⟨0,⟨0,0⟩,0⟩ = true:=by kernel_rfl
theorem ac_wt {f g h : RQ} {k : Zk} (hk : k.at (mnQ 0 f g h)) (hy : k.yes = true) : wtB (acQ f g h) = true:=by
  cases k with
  | all=>rw [ac_zero (of_decide_eq_true hk.1) (of_decide_eq_true hk.2.1) (of_decide_eq_true hk.2.2.1) (of_decide_eq_true hk.2.2.2)]; exact zero_wt
  | _=>cases hy
section
variable {f g h : RQ} (hf : MayC f) (hg : MayC g) (hh : MayC h)
noncomputable def th3E (n : (smC (.ok f hf) && (smC (.ok g hg) && smC (.ok h hh))) = true) (k : Zk) (hk : k.at (mnQ 0 f g h)) {b : Bool} (hb : wtB (acQ f g h) = b) : List (Ev Tryz.prog) :=
  [(sSmThree (.ok f hf) (.ok g hg) (.ok h hh) n).e,(sMBundle hf hg hh hk).e,(sMAcross hf hg hh).e,(sMayThree (.ok f hf) (.ok g hg) (.ok h hh) rfl).e,(sR13Bundle hf.szh hg.szh hh.szh k hk).e,(sR13Across hf hg hh hb).e,(sNum13 0).e,(sIs13 (acQ f g h) hb).e,sKnown13.e]
abbrev thO (hf : MayC f) (hg : MayC g) (hh : MayC h) (β : Env) (w : World) : Prop:=Calls Tryz.prog 9 ((thA (.ok f hf) (.ok g hg) (.ok h hh)).map (SV.den β)).toArray w fun e w'=>∃ xs : List Pl,freshS β w 0 xs ∧ e = .returned ((tB' true).den (extE β 0 xs)) ∧ newHold w' [] xs ∧ Below w.heap.size w w'
theorem th_no (n : (smC (.ok f hf) && (smC (.ok g hg) && smC (.ok h hh))) = true) (k : Zk) (hk : k.at (mnQ 0 f g h)) (hy : k.yes = false) {b : Bool} (hb : wtB (acQ f g h) = b) (β : Env) (w : World) (hD : ∀ (k : Nat) (t : Thing),([] : List Thing)[k]? = some t → t.D w (β k)) : thO hf hg hh β w:=by
  cases k with
  | all=>cases hy
  | _=>cases b <;> exact spec_auto (evs:=th3E hf hg hh n _ hk hb) (Ns:=[]) (m:=2000) Tryz.func9 hmA (fun β=>by kernel_rfl) (by kernel_rfl) β w hD
theorem th_yes (n : (smC (.ok f hf) && (smC (.ok g hg) && smC (.ok h hh))) = true) (hk : Zk.all.at (mnQ 0 f g h)) (β : Env) (w : World) (hD : ∀ (k : Nat) (t : Thing),([] : List Thing)[k]? = some t → t.D w (β k)) : thO hf hg hh β w :=
  spec_auto (evs:=th3E hf hg hh n .all hk (ac_wt hk rfl)) (Ns:=[]) (m:=2000) Tryz.func9 hmA (fun β=>by kernel_rfl) (by kernel_rfl) β w hD
noncomputable def th3 (n : (smC (.ok f hf) && (smC (.ok g hg) && smC (.ok h hh))) = true) : Spec Tryz.prog :=
  ⟨9,Tryz.call9,thA (.ok f hf) (.ok g hg) (.ok h hh),[],tB' true,[],fun β w hD=>by
    obtain ⟨k,hk⟩:=Zk.ex (mnQ 0 f g h)
    cases hy : k.yes with
    | false=>exact th_no hf hg hh n k hk hy rfl β w hD
    | true=>cases k with
      | all=>exact th_yes hf hg hh n hk β w hD
      | _=>exact absurd hy (by decide),by kernel_rfl⟩
end
theorem _root_.Go.Proofs.YtimfgjcidigbiaaGreat.MeetThree_walk (p q r : Cp) (W : World) :
    Calls Tryz.prog 9 #[.agg (p.a.V ++ p.b.V ++ p.b'.V ++ p.c.V).toArray,.agg (q.a.V ++ q.b.V ++ q.b'.V ++ q.c.V).toArray,.agg (r.a.V ++ r.b.V ++ r.b'.V ++ r.c.V).toArray] W fun e W'=>e = .returned (.bool true) ∧ Below W.heap.size W W':=by
  cases h : (smC p && (smC q && smC r)) with
  | false=>exact spec_yes (th1 p q r h) rfl rfl W
  | true =>
    cases k : (p.B && (q.B && r.B)) with
    | false=>exact spec_yes (th2 p q r h k) rfl rfl W
    | true =>
      cases p with
      | no=>cases k
      | ok f hf=>cases q with
        | no=>cases k
        | ok g hg=>cases r with
          | no=>cases k
          | ok l hl=>exact spec_yes (th3 hf hg hl h) rfl rfl W
end Go.Proofs.YtimfgjcidigbiaaGreat.Y
end
section
namespace Go.Proofs.YtimfgjcidigbiaaGreat
open Go.ChangeShapes Go.WideShapes Go.ChangeAt Go.RowKit
theorem cellsOf_bool : Tryz.prog.cellsOf 4 = 1:=by kernel_rfl
theorem cellsOf_string : Tryz.prog.cellsOf 9 = 1:=by kernel_rfl
theorem cellsOf_whole : Tryz.prog.cellsOf 23 = 2:=by kernel_rfl
theorem cellsOf_frac : Tryz.prog.cellsOf 25 = 4:=by kernel_rfl
section
variable {H : Type} {enc : TypeId × Value → H} {w : World} {base : Nat} {spare : Nat → Bool} {held : Bool}
set_option maxRecDepth 100000 in
theorem trod_whole {fuel : Nat} {cs : List Value} {x : DataW H × List MemPlace} (h : DataW.trod enc Tryz.prog w base spare held fuel 23 cs = some x) :
    ∃ (b : Bool) (s : ByteArray),cs = [.bool b,.string s] ∧ s.size ≤ maxLen:=by
  obtain ⟨xs,n,rfl,_,hlen,hxl,hf⟩:=DataW.trod_struct Tryz.underlying23 h
  rw [cellsOf_whole] at hlen
  have hx0 : xs[0]? = some (xs[0]'(by rw [hxl]; decide)):=List.getElem?_eq_getElem _
  have hx1 : xs[1]? = some (xs[1]'(by rw [hxl]; decide)):=List.getElem?_eq_getElem _
  have h0 : DataW.trod enc Tryz.prog w base spare held n 4 ((cs.drop 0).take (Tryz.prog.cellsOf 4)) = some _:=(hf 0 _ rfl).trans hx0
  have h1 : DataW.trod enc Tryz.prog w base spare held n 9 ((cs.drop 1).take (Tryz.prog.cellsOf 9)) = some _:=(hf 1 _ rfl).trans hx1
  rw [cellsOf_bool] at h0
  rw [cellsOf_string] at h1
  match cs,hlen with
  | [a,b],_ =>
    obtain ⟨p,e0,_⟩:=DataW.trod_bool Tryz.underlying4 h0
    obtain ⟨s,e1,_,hs⟩:=DataW.trod_string Tryz.underlying9 h1
    cases e0
    cases e1
    exact ⟨p,s,rfl,hs⟩
set_option maxRecDepth 100000 in
theorem trod_frac {fuel : Nat} {cs : List Value} {x : DataW H × List MemPlace} (h : DataW.trod enc Tryz.prog w base spare held fuel 25 cs = some x) :
    ∃ (b c : Bool) (s t : ByteArray),cs = [.bool b,.string s,.bool c,.string t] ∧ s.size ≤ maxLen ∧ t.size ≤ maxLen:=by
  obtain ⟨xs,n,rfl,_,hlen,hxl,hf⟩:=DataW.trod_struct Tryz.underlying25 h
  rw [cellsOf_frac] at hlen
  have hx0 : xs[0]? = some (xs[0]'(by rw [hxl]; decide)):=List.getElem?_eq_getElem _
  have hx1 : xs[1]? = some (xs[1]'(by rw [hxl]; decide)):=List.getElem?_eq_getElem _
  have h0 : DataW.trod enc Tryz.prog w base spare held n 23 ((cs.drop 0).take (Tryz.prog.cellsOf 23)) = some _:=(hf 0 _ rfl).trans hx0
  have h1 : DataW.trod enc Tryz.prog w base spare held n 23 ((cs.drop 2).take (Tryz.prog.cellsOf 23)) = some _:=(hf 1 _ rfl).trans hx1
  rw [cellsOf_whole] at h0 h1
  match cs,hlen with
  | [a,b,c,d],_ =>
    obtain ⟨p,s,e0,hs⟩:=trod_whole h0
    obtain ⟨q,t,e1,ht⟩:=trod_whole h1
    cases e0
    cases e1
    exact ⟨p,q,s,t,rfl,hs,ht⟩
end
end Go.Proofs.YtimfgjcidigbiaaGreat
end
section
namespace Go.Proofs.YtimfgjcidigbiaaGreat
open Go Go.ChangeShapes Go.WideShapes Go.ChangeAt Go.RowKit
theorem cellsOf_gauss : Tryz.prog.cellsOf 27 = 8:=by kernel_rfl
theorem okWide_array {P : Program} {w : World} {r : Reach} {base : Nat} {t e : TypeId} {v : Value} {n : Nat} (ht : P.underlying t = some (.array n e)) (h : Value.okWide P w r base t v) : ∃ cs,v = .agg cs ∧ cs.size = P.cellsOf t:=by
  simp only [Value.okWide,ht] at h
  obtain ⟨cs,h1,h2,_⟩:=h
  exact ⟨cs,h1,h2⟩
theorem chunk {α : Type} (cs : List α) (a b : Nat) : cs.drop a = (cs.drop a).take b ++ cs.drop (a + b):=by
  rw [← List.drop_drop,List.take_append_drop]
def R4.ok (x : R4) : Prop:=x.s.size ≤ maxLen ∧ x.t.size ≤ maxLen
section
variable {H : Type} {enc : TypeId × Value → H} {w : World} {base : Nat} {spare : Nat → Bool} {held : Bool}
theorem trod_r4 {fuel : Nat} {cs : List Value} {x : DataW H × List MemPlace} (h : DataW.trod enc Tryz.prog w base spare held fuel 25 cs = some x) : ∃ r : R4,cs = r.V ∧ r.ok:=by
  obtain ⟨b,c,s,t,e,h1,h2⟩:=trod_frac h
  exact ⟨⟨b,s,c,t⟩,e,h1,h2⟩
set_option maxRecDepth 100000 in
theorem trod_gauss {fuel : Nat} {cs : List Value} {x : DataW H × List MemPlace} (h : DataW.trod enc Tryz.prog w base spare held fuel 27 cs = some x) : ∃ r s : R4,cs = r.V ++ s.V ∧ r.ok ∧ s.ok:=by
  obtain ⟨xs,n,rfl,_,hlen,hxl,hf⟩:=DataW.trod_struct Tryz.underlying27 h
  rw [cellsOf_gauss] at hlen
  have hx0 : xs[0]? = some (xs[0]'(by rw [hxl]; decide)):=List.getElem?_eq_getElem _
  have hx1 : xs[1]? = some (xs[1]'(by rw [hxl]; decide)):=List.getElem?_eq_getElem _
  have h0 : DataW.trod enc Tryz.prog w base spare held n 25 ((cs.drop 0).take (Tryz.prog.cellsOf 25)) = some _:=(hf 0 _ rfl).trans hx0
  have h1 : DataW.trod enc Tryz.prog w base spare held n 25 ((cs.drop 4).take (Tryz.prog.cellsOf 25)) = some _:=(hf 1 _ rfl).trans hx1
  rw [cellsOf_frac] at h0 h1
  obtain ⟨r,e0,k0⟩:=trod_r4 h0
  obtain ⟨s,e1,k1⟩:=trod_r4 h1
  refine ⟨r,s,?_,k0,k1⟩
  have:=chunk cs 0 4
  rw [e0,List.drop_zero] at this
  rw [this,chunk cs (0 + 4) 4,e1,List.drop_of_length_le (by omega),List.append_nil]
end
end Go.Proofs.YtimfgjcidigbiaaGreat
end
