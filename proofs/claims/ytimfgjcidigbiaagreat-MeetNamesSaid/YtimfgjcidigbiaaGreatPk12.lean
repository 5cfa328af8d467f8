/- Osp, GsB, L4, CiA, CiB, IntG, GsC, GsD, Ops, CiC, CiD, CiE, CiF, CiG, Yd, G1, MtA. -/
import Derived.Test.YtimfgjcidigbiaaGreatPk11
set_option linter.unnecessarySimpa false
set_option linter.unusedVariables false
set_option linter.unusedSimpArgs false
section
namespace Go.Proofs.YtimfgjcidigbiaaGreat.Y
open Go Go.RowKit
set_option maxRecDepth 100000
def Ob.ren (ρ : Nat → Nat) : Ob → Ob
  | .box cs t=>.box (cs.map (Lf.ren ρ)) t
  | x=>x
def ptrB : Option Lf → Bool
  | some (.b (.z _ _))=>true
  | some (.b (.p _ _))=>true
  | some (.b (.v (.string _)))=>true
  | _=>false
def Ob.plainB : Ob → Bool
  | .box cs _=>Nat.blt cs.length 4 || ptrB cs[1]?
  | .th _=>true
  | _=>false
theorem Ob.holds_ren {β : Env} {w : World} {g : Pl} {ρ : Nat → Nat} : ∀ {o : Ob},o.plainB = true → (o.ren ρ).holds β w g → o.holds (fun k=>β (ρ k)) w g
  | .box cs t,_,h=>⟨h.1,by
    rw [h.2,List.map_map]
    rw [show (Lf.den β ∘ Lf.ren ρ) = Lf.den (fun k=>β (ρ k)) from funext fun x=>Lf.den_ren β ρ x]⟩
  | .th _,_,h=>h
theorem Ob.holds_cg {q : Nat → Bool} {β β' : Env} {w : World} {g : Pl} (hq : ∀ k,q k = true → β k = β' k) : ∀ {o : Ob},o.plainB = true → o.of q = true → o.holds β w g → o.holds β' w g
  | .box cs t,_,h,k=>⟨k.1,by rw [k.2,all_congr h (Lf.den_congr hq)]⟩
  | .th _,_,_,k=>k
structure OSpec (P : Program) where
  f : FuncId
  en : Enters P f
  args : List SV
  obs : List Ob
  res : SV
  news : List Rat
  ok : ∀ β w,(∀ (k : Nat) (o : Ob),obs[k]? = some o → o.holds β w (β k)) → Calls P f (args.map (SV.den β)).toArray w fun e w'=>∃ xs : List Pl,(∀ x ∈ xs,∀ c,x.F c → w.heap.size ≤ c ∨ ∃ i o,obs[i]? = some o ∧ o.isTh = true ∧ (β i).F c) ∧ e = .returned (res.den (extE β obs.length xs)) ∧ newHold w' (news.map ratT) xs ∧ Below w.heap.size w w'
  closed : (args.all (SV.of fun k=>Nat.blt k obs.length) && obs.all (fun x=>x.of (fun k=>Nat.blt k obs.length) && x.plainB) && res.of fun k=>Nat.blt k (obs.length + news.length)) = true
def mtBox (o c : Ob) : List (Nat × Nat):=match o,c with
  | .box xs _,.box ys _=>mtLs xs ys
  | _,_=>[]
def mtObs (obs ob : List Ob) : List (Nat × Nat) → List (Nat × Nat)
  | []=>[]
  | (k,j) :: r=>(match obs[k]?,ob[j]? with | some o,some c=>mtBox o c | _,_=>[]) ++ mtObs obs ob r
def sigO {P : Program} (S : OSpec P) (xs : List SV) (ob : List Ob) : List Nat:=sigL (mtVs S.args xs ++ mtObs S.obs ob (mtVs S.args xs)) 0 S.obs.length
def needsO (σ : List Nat) (ρ : Nat → Nat) : List Ob → Nat → List (Nat × Ob)
  | [],_=>[]
  | o :: r,k=>(lit (σ.getD k 0) fun j=>j,o.ren ρ) :: needsO σ ρ r (k + 1)
theorem needsO_at {σ : List Nat} {ρ : Nat → Nat} : ∀ {l : List Ob} {i k : Nat} {o : Ob},l[k]? = some o → (σ.getD (i + k) 0,o.ren ρ) ∈ needsO σ ρ l i
  | x :: r,i,0,o,h=>by
    simp only [List.getElem?_cons_zero] at h
    obtain rfl:=Option.some.inj h
    unfold needsO
    rw [lit_eq]
    exact List.mem_cons_self ..
  | x :: r,i,k + 1,o,h=>by
    have:=needsO_at (σ:=σ) (ρ:=ρ) (l:=r) (i:=i + 1) (k:=k) (o:=o) (by simpa using h)
    rw [show i + (k + 1) = i + 1 + k by omega]
    exact List.mem_cons_of_mem _ this
def OSpec.ev {P : Program} (S : OSpec P) (σ : List Nat) (n : Nat) (hσ : (Nat.ble S.obs.length σ.length && σ.all fun k=>Nat.blt k n) = true) : Ev P :=
  .call S.f S.en (fun β=>(S.args.map (SV.den fun k=>β (atS σ S.obs.length n k))).toArray) (needsO σ (atS σ S.obs.length n) S.obs 0) n (S.res.ren (atS σ S.obs.length n)) (S.news.map ratT) fun β w h=>by
    have hc:=S.closed
    simp only [Bool.and_eq_true] at hc
    have hat : ∀ k,k < S.obs.length → atS σ S.obs.length n k = σ.getD k 0:=fun k hk=>by
      unfold atS
      rw [lit_eq,show Nat.blt k S.obs.length = true by rw [Nat.blt_eq]; exact hk,cond_true]
    have hat2 : ∀ k,¬ k < S.obs.length → atS σ S.obs.length n k = n + (k - S.obs.length):=fun k hk=>by
      unfold atS
      rw [lit_eq,show Nat.blt k S.obs.length = false by rw [Bool.eq_false_iff,ne_eq,Nat.blt_eq]; exact hk,cond_false]
    rw [Bool.and_eq_true,Nat.ble_eq] at hσ
    have hsn : ∀ k,k < S.obs.length → σ.getD k 0 < n:=fun k hk=>by
      rw [List.getD_eq_getElem?_getD]
      cases hx : σ[k]? with
      | none=>rw [List.getElem?_eq_none_iff] at hx; omega
      | some y=>have:=List.all_eq_true.1 hσ.2 y (List.mem_of_getElem? hx); rw [Nat.blt_eq] at this; exact this
    have hq : ∀ k,Nat.blt k S.obs.length = true → β (atS σ S.obs.length n k) = β (σ.getD k 0):=fun k hk=>by rw [hat k (by simpa [Nat.blt_eq] using hk)]
    have hargs : S.args.map (SV.den fun k=>β (atS σ S.obs.length n k)) = S.args.map (SV.den fun k=>β (σ.getD k 0)):=List.map_congr_left fun x hx=>SV.den_congr hq _ (List.all_eq_true.1 hc.1.1 x hx)
    rw [hargs]
    refine (S.ok (fun k=>β (σ.getD k 0)) w fun k o hk=>?_).mono ?_
    · have ho:=List.all_eq_true.1 hc.1.2 o (List.mem_of_getElem? hk)
      rw [Bool.and_eq_true] at ho
      have hlt : k < S.obs.length:=(List.getElem?_eq_some_iff.1 hk).1
      have h1 : (o.ren (atS σ S.obs.length n)).holds β w (β (σ.getD k 0)):=by
        have:=h _ (needsO_at (i:=0) hk)
        rwa [Nat.zero_add] at this
      exact Ob.holds_cg hq ho.2 ho.1 (Ob.holds_ren ho.2 h1)
    · rintro e w' ⟨xs,h1,rfl,h3,h4⟩
      refine ⟨xs,fun x hx c hc2=>?_,?_,h3,h4⟩
      · rcases h1 x hx c hc2 with h5 | ⟨i,o,h5,h6,h7⟩
        · exact .inl h5
        · refine .inr ⟨_,needsO_at (i:=0) h5,?_,?_⟩
          · cases o <;> first | exact h6 | cases h6
          · rw [Nat.zero_add]; exact h7
      · rw [SV.den_ren]
        congr 1
        refine SV.den_congr (fun k hk=>?_) _ hc.2
        have hlen:=(newHold_get h3).1
        rw [List.length_map] at hlen
        rw [Nat.blt_eq] at hk
        by_cases hk2 : k < S.obs.length
        · rw [hat k hk2,extE_out (β:=β) (n:=n) (k:=σ.getD k 0) (xs:=xs) (by have:=hsn k hk2; omega),extE_out (n:=S.obs.length) (k:=k) (xs:=xs) (by omega)]
        · rw [hat2 k hk2]
          have h5 : k - S.obs.length < xs.length:=by omega
          rw [extE_in (List.getElem?_eq_getElem h5)]
          have:=extE_in (β:=fun k=>β (σ.getD k 0)) (n:=S.obs.length) (List.getElem?_eq_getElem h5)
          rw [show S.obs.length + (k - S.obs.length) = k by omega] at this
          exact this
def OSpec.e {P : Program} (S : OSpec P) : Ev P:=.dyn (fun o _ _=>isCallB o) fun _ xs ob =>
  lits (sigO S xs ob) fun σ=>lit ob.length fun n=>if h : (Nat.ble S.obs.length σ.length && σ.all fun k=>Nat.blt k n) = true then S.ev σ n h else .eqv 0 undef undef rfl
theorem ptr_no_rat {w : World} {b : Nat} {cs : Array Value} {t : TypeId} {x : Rat} {q : Option Addr} (h : w.heap[b]? = some (.cells cs t (0,0))) (hq : cs[1]? = some (.pointer q)) (k : RatAt w b 0 x) : False:=by
  obtain ⟨A,m,cap,_,h1,_⟩:=k.2.1.open_
  have h2:=cell_lay (o:=1) h hq
  rw [Nat.zero_add,h2] at h1
  cases h1
theorem str1_no_rat {w : World} {b : Nat} {cs : Array Value} {t : TypeId} {x : Rat} {q : ByteArray} (h : w.heap[b]? = some (.cells cs t (0,0))) (hq : cs[1]? = some (.string q)) (k : RatAt w b 0 x) : False:=by
  obtain ⟨A,m,cap,_,h1,_⟩:=k.2.1.open_
  have h2:=cell_lay (o:=1) h hq
  rw [Nat.zero_add,h2] at h1
  cases h1
theorem small_no_rat {w : World} {b : Nat} {cs : Array Value} {t : TypeId} {x : Rat} (h : w.heap[b]? = some (.cells cs t (0,0))) (hs : cs.size < 4) (k : RatAt w b 0 x) : False:=by
  obtain ⟨cs',t',h1,_,h2⟩:=k.1
  rw [h] at h1
  obtain ⟨rfl,_,_⟩:=Obj.cells.inj (Option.some.inj h1)
  omega
def idxO (P : Program) (fn : Func) (args : List SV) (obs : List Ob) (evs : List (Ev P)) (Ns : List (Nat × Nat)) (m : Nat) (res : SV) : List (Nat × Nat) :=
  match fn.body with
  | some c=>match fullS P fn args obs evs Ns m c with
    | some f=>match run1 P obs.length false (results fn (tmpsS idE f.sl (sizeS fn args))) f.q f.ob [] with
      | some ⟨v,_,_,_⟩=>mtR res (tag v)
      | none=>[]
    | none=>[]
  | none=>[]
def specO (P : Program) (fn : Func) (args : List SV) (obs : List Ob) (evs : List (Ev P)) (Ns : List (Nat × Nat)) (m : Nat) (res : SV) (news : List Rat) (idx : List Nat) (β : Env) : Eqs :=
  allS P fn args obs evs Ns m (res.ren (backS obs.length idx)) (idx.zip (news.map fun x=>(ratT x).ob)) β
def specOA (P : Program) (fn : Func) (args : List SV) (obs : List Ob) (evs : List (Ev P)) (Ns : List (Nat × Nat)) (m : Nat) (res : SV) (news : List Rat) (β : Env) : Eqs :=
  lits (sigL (idxO P fn args obs evs Ns m res) obs.length news.length) fun idx=>specO P fn args obs evs Ns m res news idx β
theorem newHold_rats {β : Env} {w : World} : ∀ {idx : List Nat} {l : List Rat},idx.length = l.length → holdsAll β w (idx.zip (l.map fun x=>(ratT x).ob)) → newHold w (l.map ratT) (idx.map β)
  | [],[],_,_=>trivial
  | [],_ :: _,h,_=>by simp at h
  | _ :: _,[],h,_=>by simp at h
  | i :: r,t :: l,h,k=>⟨k (i,(ratT t).ob) (by simp),newHold_rats (by simpa using h) fun p hp=>k p (by simp only [List.map_cons,List.zip_cons_cons]; exact List.mem_cons_of_mem _ hp)⟩
theorem ospec_ok {P : Program} {f : FuncId} {fn : Func} {args : List SV} {obs : List Ob} {evs : List (Ev P)} {Ns : List (Nat × Nat)} {m : Nat} {res : SV} {news : List Rat} (hf : P.funcs[f]? = some fn) (hm : P.follows .mixedOrders = true)
    (h0 : ∀ β,(specOA P fn args obs evs Ns m res news β).map Prod.fst = (specOA P fn args obs evs Ns m res news β).map Prod.snd)
    (hB : (args.all (SV.of fun k=>Nat.blt k obs.length) && obs.all (fun x=>x.of (fun k=>Nat.blt k obs.length) && x.plainB) && res.of fun k=>Nat.blt k (obs.length + news.length)) = true)
    (β : Env) (w : World) (hh : ∀ (k : Nat) (o : Ob),obs[k]? = some o → o.holds β w (β k)) :
    Calls P f (args.map (SV.den β)).toArray w fun e w'=>∃ xs : List Pl,(∀ x ∈ xs,∀ c,x.F c → w.heap.size ≤ c ∨ ∃ i o,obs[i]? = some o ∧ o.isTh = true ∧ (β i).F c) ∧ e = .returned (res.den (extE β obs.length xs)) ∧ newHold w' (news.map ratT) xs ∧ Below w.heap.size w w':=by
  obtain ⟨idx,hidx⟩ : ∃ idx,idx = sigL (idxO P fn args obs evs Ns m res) obs.length news.length:=⟨_,rfl⟩
  have hlen : idx.length = news.length:=by rw [hidx,sigL_len]
  have h : ∀ β,(specO P fn args obs evs Ns m res news idx β).map Prod.fst = (specO P fn args obs evs Ns m res news idx β).map Prod.snd:=fun β=>by
    have:=h0 β
    unfold specOA at this
    rw [lits_eq,← hidx] at this
    exact this
  simp only [Bool.and_eq_true] at hB
  obtain ⟨⟨h1,h2⟩,h3⟩:=hB
  refine (sx (P:=P) args obs evs Ns m (res.ren (backS obs.length idx)) (idx.zip (news.map fun x=>(ratT x).ob)) hf hm (fun β=>ok_of_maps (h β)) h1
    (List.all_eq_true.2 fun x hx=>by
      have:=List.all_eq_true.1 h2 x hx
      rw [Bool.and_eq_true] at this ⊢
      refine ⟨this.1,?_⟩
      have h4:=this.2
      cases x <;> first | rfl | cases h4) β w hh).mono ?_
  rintro e w' ⟨β',q,obj,e1,rfl,e2,e4,e5,g⟩
  have hz : (idx.zip (news.map fun x=>(ratT x).ob)).map (fun p=>β' p.1) = idx.map β':=by
    rw [show (fun p : Nat × Ob=>β' p.1) = β' ∘ Prod.fst from rfl,← List.map_map,List.map_fst_zip (by rw [List.length_map]; omega)]
  refine ⟨idx.map β',fun x hx c hcF=>?_,?_,newHold_rats hlen e5,g.bel⟩
  · rw [← hz] at hx
    obtain ⟨p,hp,rfl⟩:=List.mem_map.1 hx
    rcases e4 p hp c hcF with h5 | ⟨i,h5,h6⟩
    · exact .inl h5
    · have ho:=List.getElem?_eq_getElem h5
      have hpl:=List.all_eq_true.1 h2 obs[i] (List.getElem_mem h5)
      rw [Bool.and_eq_true] at hpl
      have hho:=hh i _ ho
      generalize obs[i] = o at ho hpl hho
      cases o with
      | th D=>exact .inr ⟨i,_,ho,rfl,h6⟩
      | box cs t =>
        exfalso
        obtain ⟨hone,hheap⟩:=hho
        have hcb:=(hone.1 c).1 h6
        subst hcb
        obtain ⟨r,hr⟩ : ∃ r,p.2 = (ratT r).ob:=by
          have:=(List.of_mem_zip hp).2
          obtain ⟨r,_,hr⟩:=List.mem_map.1 this
          exact ⟨r,hr.symm⟩
        have hD:=e5 p hp
        rw [hr] at hD
        obtain ⟨b,hb1,hb2⟩ : PR r w' (β' p.1):=hD
        have hcb:=(hb1.2 _).1 hcF
        subst hcb
        have hw : w'.heap[(β i).b]? = some (.cells (cs.map (Lf.den β)).toArray t (0,0)):=by rw [g.bel.block _ (heap_lt hheap)]; exact hheap
        have:=hpl.2
        unfold Ob.plainB at this
        rw [Bool.or_eq_true,Nat.blt_eq] at this
        rcases this with this | this
        · exact small_no_rat hw (by simpa using this) hb2
        · have hq : (∃ q,(cs.map (Lf.den β))[1]? = some (.pointer q)) ∨ ∃ q,(cs.map (Lf.den β))[1]? = some (.string q):=by
            rw [List.getElem?_map]
            unfold ptrB at this
            split at this
            · rename_i k j e; rw [e]; exact .inl ⟨_,rfl⟩
            · rename_i k j e; rw [e]; exact .inl ⟨_,rfl⟩
            · rename_i k e; rw [e]; exact .inr ⟨_,rfl⟩
            · cases this
          rcases hq with ⟨q,hq⟩ | ⟨q,hq⟩
          · exact ptr_no_rat hw (by simpa using hq) hb2
          · exact str1_no_rat hw (by simpa using hq) hb2
      | al r D=>cases hpl.2
      | pl n=>cases hpl.2
      | row cs t n sz=>cases hpl.2
      | dead=>cases hpl.2
  · rw [SV.den_ren]
    congr 1
    refine SV.den_congr (fun k hk=>?_) _ h3
    rw [Nat.blt_eq] at hk
    unfold backS
    rw [lit_eq]
    by_cases hk2 : k < obs.length
    · rw [show Nat.blt k obs.length = true by rw [Nat.blt_eq]; exact hk2,cond_true,extE_out (by omega)]
      exact e1 k hk2
    · rw [show Nat.blt k obs.length = false by rw [Bool.eq_false_iff,ne_eq,Nat.blt_eq]; exact hk2,cond_false]
      have h5 : k - obs.length < idx.length:=by omega
      have:=extE_in (β:=β) (n:=obs.length) (xs:=idx.map β') (i:=k - obs.length) (x:=β' idx[k - obs.length]) (by simp [h5])
      rw [show obs.length + (k - obs.length) = k by omega] at this
      rw [this,List.getD_eq_getElem?_getD,List.getElem?_eq_getElem h5,Option.getD_some]
def OSpec.auto {P : Program} {f : FuncId} {fn : Func} (en : Enters P f) (args : List SV) (obs : List Ob) (res : SV) (news : List Rat) (evs : List (Ev P)) (Ns : List (Nat × Nat)) (m : Nat) (hf : P.funcs[f]? = some fn) (hm : P.follows .mixedOrders = true)
    (hB : (args.all (SV.of fun k=>Nat.blt k obs.length) && obs.all (fun x=>x.of (fun k=>Nat.blt k obs.length) && x.plainB) && res.of fun k=>Nat.blt k (obs.length + news.length)) = true)
    (h : ∀ β,(specOA P fn args obs evs Ns m res news β).map Prod.fst = (specOA P fn args obs evs Ns m res news β).map Prod.snd) : OSpec P :=
  ⟨f,en,args,obs,res,news,ospec_ok hf hm h hB,hB⟩
end Go.Proofs.YtimfgjcidigbiaaGreat.Y
end
section
namespace Go.Proofs.YtimfgjcidigbiaaGreat.Y
open Go Go.RowKit
set_option maxRecDepth 100000
abbrev gnS (a : Gn) : SV:=.one (.a (rL a.x ++ rL a.y))
theorem _root_.Go.Proofs.YtimfgjcidigbiaaGreat.FitG.gsz {z : GQ} (h : FitG z) : GSz 1024 z:=⟨h.1.sz,h.2.sz⟩
end Go.Proofs.YtimfgjcidigbiaaGreat.Y
end
section
namespace Go.Proofs.YtimfgjcidigbiaaGreat.Y
open Go Go.RowKit
set_option maxRecDepth 100000
abbrev f0L : List Lf:=rL r40
noncomputable abbrev fA (x : Rat) : List Lf:=[.b (.v (.bool (ansB x))),.b (.v (.string (ansS x))),.b (.v (.bool false)),.b (.v (.string (ansD x)))]
theorem fA_fit {x : Rat} (h : Fit x) : fA x = fC x ∧ ansK x = 0:=by
  unfold fA fC
  rw [(ansF_fit h).1,(ansF_fit h).2.1,(ansF_fit h).2.2.1]
  exact ⟨rfl,(ansF_fit h).2.2.2⟩
theorem fA_not {x : Rat} (h : ¬ Fit x) : fA x = f0L ∧ ansK x = 4:=by
  unfold fA
  rw [show ansB x = false from if_neg h,show ansS x = ⟨#[]⟩ from if_neg h,show ansD x = ⟨#[]⟩ from if_neg h]
  exact ⟨rfl,if_neg h⟩
def sGM (g : Gp) {r : Bool} (h : g.B = r) : Spec Tryz.prog :=
  (sGMay g.a.a g.b.a).as [g.C] (tB' r) (by
    show [SV.one (.a (g.a.a.C ++ g.b.a.C))] = [SV.one (.a (rL g.a.r ++ rL g.b.r))]
    rw [show g.a.a.C = rL g.a.r from g.a.e,show g.b.a.C = rL g.b.r from g.b.e]) (congrArg tB' h)
end Go.Proofs.YtimfgjcidigbiaaGreat.Y
end
section
namespace Go.Proofs.YtimfgjcidigbiaaGreat.Y
open Go Go.RowKit
set_option maxRecDepth 100000
def rdEq (d t : Nat) (x : Rat) (k : Nat) : Ev Tryz.prog:=.rd d (.binOp .eql 113 (.tmp t) (.const (.pointer none)) 113) (fun β=>[.pointer ((β k).v 0),.pointer none]) [(k,(ratT x).ob)] 0 (.one (.c (.b (.v (.bool false))))) [] (fun β w h ρ o ho hx=>by
  obtain ⟨a,ha,ka⟩:=needP (x:=x) (k:=k) h (by simp)
  have h2 : ρ (.tmp t) = .pointer (some ⟨a,0,none⟩) ∧ ρ (.const (.pointer none)) = .pointer none:=by
    rw [ha.1] at hx
    simpa [Op.operands] using hx
  refine ⟨[],w,(fun _ h=>by cases h),?_,trivial,Below.refl _ _⟩
  unfold execOp
  rw [ho]
  simp only [h2.1,h2.2]
  kernel_rfl)
def dEq (x : Rat) : Ev Tryz.prog:=.dyn (fun o _ _=>match o.op with
  | .binOp .eql a (.tmp _) (.const (.pointer none)) _=>Nat.beq a 113
  | _=>false) fun o xs _=>match o.op with
  | .binOp _ _ (.tmp t) _ _=>lit (ptOf (xs.getD 0 undefS)) fun k=>rdEq (o.dst.getD 0) t x k
  | _=>.eqv 0 undef undef rfl
theorem zero_div : (Rat.divInt 0 1 : Rat) = 0:=of_decide_eq_true (by kernel_rfl : decide ((Rat.divInt 0 1 : Rat) = 0) = true)
abbrev KC : Nat:=1000000
structure RQ where
  a : Rat
  b : GQ
  c : Rat
structure RSz (k : Nat) (r : RQ) : Prop where
  a : Sz k r.a
  b : GSz k r.b
  c : Sz k r.c
theorem RSz.mono {i k : Nat} {r : RQ} (h : RSz i r) (hk : i ≤ k) : RSz k r:=⟨h.a.mono hk,h.b.mono hk,h.c.mono hk⟩
abbrev rgV (k : Nat) : SV:=.one (.a [.b (.z k 0),.b (.z (k + 1) 0),.b (.z (k + 2) 0),.b (.z (k + 3) 0)])
abbrev rgM (r : RQ) : List Thing:=[ratT r.a,ratM r.b.re,ratM r.b.im,ratM r.c]
abbrev rgT (r : RQ) : List Thing:=[ratT r.a,ratT r.b.re,ratT r.b.im,ratT r.c]
def rpow (r : RQ) : Rat:=gnorm r.b - r.a * r.c
def sPower {r : RQ} (h : RSz KC r) : Spec Tryz.prog :=
  Spec.auto Tryz.call112 [rgV 0] (rgM r) (rV 4) [ratT (rpow r)] [mkR,(sNorm (h.b.mono (by decide))).e,(sMulR (h.a.mono (by decide)) (h.c.mono (by decide))).e,fSub (h.b.norm.mono (by decide)) ((h.a.mul h.c).mono (by decide))] [(1,11)] 400 Tryz.func112 hmA (by kernel_rfl) (fun β=>by kernel_rfl)
def rbyQ (i j : Bool) (r : RQ) : Rat:=bif i then (bif j then r.b.im else r.b.re) else r.a
def rnm (r : RQ) (x : Rat) : RQ:=⟨r.a * x⁻¹,gscale r.b x⁻¹,r.c * x⁻¹⟩
theorem rby_sz {k : Nat} {r : RQ} (h : RSz k r) (i j : Bool) : Sz k (rbyQ i j r):=by
  cases i
  · exact h.a
  · cases j
    · exact h.b.1
    · exact h.b.2
theorem rnm_sz {k : Nat} {r : RQ} (h : RSz k r) {x : Rat} (hx : Sz k x) (h0 : x ≠ 0) : RSz (k + k) (rnm r x) :=
  ⟨h.a.mul (hx.inv h0),⟨h.b.1.mul (hx.inv h0),h.b.2.mul (hx.inv h0)⟩,h.c.mul (hx.inv h0)⟩
def rnE {r : RQ} (h : RSz KC r) {x : Rat} (hx : Sz KC x) (h0 : x ≠ 0) : List (Ev Tryz.prog) :=
  [mkR,fInv (hx.mono (by decide)) h0,(sMulR (h.a.mono (by decide)) ((hx.inv h0).mono (by decide))).e,(sScale (h.b.mono (by decide)) ((hx.inv h0).mono (by decide))).e,(sMulR (h.c.mono (by decide)) ((hx.inv h0).mono (by decide))).e]
def sRNormal {r : RQ} (h : RSz KC r) {i j : Bool} (hi : decide (r.a = 0) = i) (hj : decide (r.b.re = 0) = j) (h0 : rbyQ i j r ≠ 0) : Spec Tryz.prog :=
  ⟨194,Tryz.call194,[rgV 0],rgM r,rgV 4,rgT (rnm r (rbyQ i j r)),fun β w hh=>by
    cases i
    · exact spec_auto (args:=[rgV 0]) (obs:=rgM r) (res:=rgV 4) (news:=rgT (rnm r (rbyQ false j r))) (evs:=[(sParts r.b).e,nSign (x:=r.a) rfl,.eqv 27 (.bool (r.a.num.sign == 0)) (.bool false) (sign_lit hi),nSign (x:=r.a) rfl,.eqv 27 (.bool (r.a.num.sign == 0)) (.bool false) (sign_lit hi)] ++ rnE h (rby_sz h false j) h0) (Ns:=[(10,13)]) (m:=800) Tryz.func194 hmA (fun β=>by kernel_rfl) (by kernel_rfl) β w hh
    · cases j
      · exact spec_auto (args:=[rgV 0]) (obs:=rgM r) (res:=rgV 4) (news:=rgT (rnm r (rbyQ true false r))) (evs:=[(sParts r.b).e,nSign (x:=r.a) rfl,.eqv 27 (.bool (r.a.num.sign == 0)) (.bool true) (sign_lit hi),nSign (x:=r.b.re) rfl,.eqv 27 (.bool (r.b.re.num.sign == 0)) (.bool false) (sign_lit hj)] ++ rnE h (rby_sz h true false) h0) (Ns:=[(10,13)]) (m:=800) Tryz.func194 hmA (fun β=>by kernel_rfl) (by kernel_rfl) β w hh
      · exact spec_auto (args:=[rgV 0]) (obs:=rgM r) (res:=rgV 4) (news:=rgT (rnm r (rbyQ true true r))) (evs:=[(sParts r.b).e,nSign (x:=r.a) rfl,.eqv 27 (.bool (r.a.num.sign == 0)) (.bool true) (sign_lit hi),nSign (x:=r.b.re) rfl,.eqv 27 (.bool (r.b.re.num.sign == 0)) (.bool true) (sign_lit hj)] ++ rnE h (rby_sz h true true) h0) (Ns:=[(10,13)]) (m:=800) Tryz.func194 hmA (fun β=>by kernel_rfl) (by kernel_rfl) β w hh,by kernel_rfl⟩
def FitC (m : RQ) : Prop:=Fit m.a ∧ FitG m.b ∧ Fit m.c
open Classical in
noncomputable def ciR (m : RQ) (x : Rat) : R4:=if FitC m then fR x else r40
open Classical in
noncomputable def ciK (m : RQ) : Int:=if FitC m then 0 else 4
noncomputable abbrev ciC (m : RQ) : List Lf:=rL (ciR m m.a) ++ rL (ciR m m.b.re) ++ rL (ciR m m.b.im) ++ rL (ciR m m.c)
abbrev cC (m : RQ) : List Lf:=rL (fR m.a) ++ rL (fR m.b.re) ++ rL (fR m.b.im) ++ rL (fR m.c)
abbrev c0C : List Lf:=rL r40 ++ rL r40 ++ rL r40 ++ rL r40
theorem ci_fit {m : RQ} (h : FitC m) : ciC m = cC m ∧ ciK m = 0:=by
  have e : ∀ x,ciR m x = fR x:=fun x=>if_pos h
  exact ⟨by rw [ciC,e,e,e,e],if_pos h⟩
theorem ci_not {m : RQ} (h : ¬ FitC m) : ciC m = c0C ∧ ciK m = 4:=by
  have e : ∀ x,ciR m x = r40:=fun x=>if_neg h
  exact ⟨by rw [ciC,e,e,e,e],if_neg h⟩
noncomputable abbrev ciA (m : RQ) : SV:=.tup [.a (ciC m),nI' (ciK m)]
section
variable {r : RQ} (h : RSz KC r) {i j : Bool} (hi : decide (r.a = 0) = i) (hj : decide (r.b.re = 0) = j) (h0 : rbyQ i j r ≠ 0)
include h hi hj h0
end
theorem sgn_le {n : Int} {t : Bool} (h : decide (n ≤ 0) = t) : Value.bool (decide (n ≤ 0)) = .bool t:=by rw [h]
def rby (r : RQ) : Rat:=rbyQ (decide (r.a = 0)) (decide (r.b.re = 0)) r
def rone (r : RQ) : RQ:=rnm r (rby r)
theorem rby_ne {r : RQ} (hp : decide ((rpow r).num.sign ≤ 0) = false) : rby r ≠ 0:=by
  intro e
  unfold rby rbyQ at e
  have hs:=of_decide_eq_false hp
  cases h1 : decide (r.a = 0) with
  | false=>rw [h1] at e; exact of_decide_eq_false h1 e
  | true=>cases h2 : decide (r.b.re = 0) with
    | false=>rw [h1,h2] at e; exact of_decide_eq_false h2 e
    | true =>
      rw [h1,h2] at e
      have ha:=of_decide_eq_true h1
      have hr:=of_decide_eq_true h2
      have hi : r.b.im = 0:=e
      apply hs
      have : rpow r = 0:=by
        unfold rpow gnorm
        rw [ha,hr,hi]
        grind
      rw [this]
      decide
def ofG {z : GQ} (h : FitG z) : Spec Tryz.prog:=sOf (.ok z.re h.1) (.ok z.im h.2)
section
variable {a : Rat} {b : GQ} {c : Rat} (ha : Fit a) (hb : FitG b) (hc : Fit c)
include ha hb hc in
theorem mk_sz : RSz KC ⟨a,b,c⟩:=⟨ha.sz.mono (by decide),hb.gsz.mono (by decide),hc.sz.mono (by decide)⟩
abbrev roundQ (b : GQ) (c : Rat) : RQ:=⟨Rat.divInt 1 1,gneg (gconj b),gnorm b - c⟩
theorem one_sz : Sz 8 (Rat.divInt 1 1):=sz_lit 1 1 (by decide) (by decide) (by decide)
include hb hc in
theorem rd_sz : RSz KC (roundQ b c):=⟨one_sz.mono (by decide),hb.gsz.conj.neg.mono (by decide),(hb.gsz.norm.sub hc.sz).mono (by decide)⟩
end
section
variable {n z : GQ} (hn : FitG n) (hz : FitG z)
theorem two_sz : Sz 8 (Rat.divInt (-2) 1):=sz_lit (-2) 1 (by decide) (by decide) (by decide)
theorem zero_sz : Sz 8 (Rat.divInt 0 1):=sz_lit 0 1 (by decide) (by decide) (by decide)
end
end Go.Proofs.YtimfgjcidigbiaaGreat.Y
end
section
namespace Go.Proofs.YtimfgjcidigbiaaGreat.Y
open Go Go.RowKit
set_option maxRecDepth 100000
def cirV (a b b' c : R4) : Array Value:=#[.bool a.b,.string a.s,.bool a.c,.string a.t,.bool b.b,.string b.s,.bool b.c,.string b.t,.bool b'.b,.string b'.s,.bool b'.c,.string b'.t,.bool c.b,.string c.s,.bool c.c,.string c.t]
def frV (a : R4) : Array Value:=#[.bool a.b,.string a.s,.bool a.c,.string a.t]
theorem eqCi {w : World} (n : Nat) (a b b' c p q q' s : R4) : (Op.equalIn (n + 5) 50 (.agg (cirV a b b' c)) (.agg (cirV p q q' s))).run Tryz.prog w = .ok (a.eq p && (geq b b' q q' && (c.eq s && true))) w:=by
  unfold cirV
  rw [run_equalIn_agg _ _ _ _ _ (by kernel_rfl) (by kernel_rfl)]
  refine run_eqF_cons (a:=.agg (frV a)) (b:=.agg (frV p)) (by kernel_rfl) (by kernel_rfl) (by kernel_rfl) (eqF (n + 1) _ _ _ _ _ _ _ _) ?_
  refine run_eqF_cons (a:=.agg (gV b b')) (b:=.agg (gV q q')) (by kernel_rfl) (by kernel_rfl) (by kernel_rfl) (eqG n _ _ _ _) ?_
  refine run_eqF_cons (a:=.agg (frV c)) (b:=.agg (frV s)) (by kernel_rfl) (by kernel_rfl) (by kernel_rfl) (eqF (n + 1) _ _ _ _ _ _ _ _) ?_
  kernel_rfl
def eqEvC (a b b' c p q q' s : R4) (r : Bool) (h : (a.eq p && (geq b b' q q' && (c.eq s && true))) = r) : Ev Tryz.prog :=
  eqEv 50 (cirV a b b' c) (cirV p q q' s) r (by kernel_rfl) (fun w=>by rw [← h]; exact eqCi 9995 ..)
theorem ceq_self (a b b' c : R4) : (a.eq a && (geq b b' b b' && (c.eq c && true))) = true:=by
  rw [R4.eq_iff.2 rfl,R4.eq_iff.2 rfl,geq_self]; rfl
def eqC1 (a b b' c : R4) : Ev Tryz.prog:=eqEvC a b b' c a b b' c true (ceq_self ..)
def sCPower {r : RQ} (h : RSz KC r) : Spec Tryz.prog :=
  Spec.auto Tryz.call232 [.one (.a (cC r))] [] (.one (.a (fC (rpow r)))) [] [(sR4Norm (h.b.mono (by decide))).e,(sR3Times (h.a.mono (by decide)) (h.c.mono (by decide))).e,(sR3Minus (h.b.norm.mono (by decide)) ((h.a.mul h.c).mono (by decide))).e] [(1,9)] 400 Tryz.func232 hmA (by kernel_rfl) (fun β=>by kernel_rfl)
def sCOver {z : GQ} {x : Rat} (hz : GSz KC z) (hx : Sz KC x) (h0 : x ≠ 0) : Spec Tryz.prog :=
  Spec.auto Tryz.call249 [gS z,.one (.a (fC x))] [] (gS ⟨z.re / x,z.im / x⟩) [] [(sR3Over (hz.1.mono (by decide)) (hx.mono (by decide)) h0).e,(sR3Over (hz.2.mono (by decide)) (hx.mono (by decide)) h0).e] [(1,9)] 400 Tryz.func249 hmA (by kernel_rfl) (fun β=>by kernel_rfl)
def rqd (r : RQ) (x : Rat) : RQ:=⟨r.a / x,⟨r.b.re / x,r.b.im / x⟩,r.c / x⟩
theorem rqd_eq (r : RQ) (x : Rat) : rqd r x = rnm r x:=by
  unfold rqd rnm gscale
  rw [Rat.div_def,Rat.div_def,Rat.div_def,Rat.div_def]
def cnE {r : RQ} (h : RSz KC r) {x : Rat} (hx : Sz KC x) (h0 : x ≠ 0) : List (Ev Tryz.prog) :=
  [(sR3Over (h.a.mono (by decide)) (hx.mono (by decide)) h0).e,(sCOver h.b hx h0).e,(sR3Over (h.c.mono (by decide)) (hx.mono (by decide)) h0).e]
def rS (r : RQ) : SV:=.one (.a (cC r))
def sCNormal {r : RQ} (h : RSz KC r) {i j : Bool} (hi : decide (r.a = 0) = i) (hj : decide (r.b.re = 0) = j) (h0 : rbyQ i j r ≠ 0) : Spec Tryz.prog :=
  ⟨145,Tryz.call145,[.one (.a (fC r.a)),gS r.b,.one (.a (fC r.c))],[],.one (.a (cC (rqd r (rbyQ i j r)))),[],fun β w hh=>by
    cases i
    · exact spec_auto (evs:=[(sR3Sign (x:=r.a) rfl).e,.eqv 11 (.bool (r.a.num.sign == 0)) (.bool false) (sign_lit hi),(sR3Sign (x:=r.a) rfl).e,.eqv 16 (.bool (r.a.num.sign == 0)) (.bool false) (sign_lit hi)] ++ cnE h (rby_sz h false j) h0) (Ns:=[(6,10)]) (m:=800) Tryz.func145 hmA (fun β=>by kernel_rfl) (by kernel_rfl) β w hh
    · cases j
      · exact spec_auto (evs:=[(sR3Sign (x:=r.a) rfl).e,.eqv 11 (.bool (r.a.num.sign == 0)) (.bool true) (sign_lit hi),(sR3Sign (x:=r.b.re) rfl).e,.eqv 16 (.bool (r.b.re.num.sign == 0)) (.bool false) (sign_lit hj)] ++ cnE h (rby_sz h true false) h0) (Ns:=[(6,10)]) (m:=800) Tryz.func145 hmA (fun β=>by kernel_rfl) (by kernel_rfl) β w hh
      · exact spec_auto (evs:=[(sR3Sign (x:=r.a) rfl).e,.eqv 11 (.bool (r.a.num.sign == 0)) (.bool true) (sign_lit hi),(sR3Sign (x:=r.b.re) rfl).e,.eqv 16 (.bool (r.b.re.num.sign == 0)) (.bool true) (sign_lit hj)] ++ cnE h (rby_sz h true true) h0) (Ns:=[(6,10)]) (m:=800) Tryz.func145 hmA (fun β=>by kernel_rfl) (by kernel_rfl) β w hh,by kernel_rfl⟩
def sCNorm1 {r : RQ} (h : RSz KC r) (hp : decide ((rpow r).num.sign ≤ 0) = false) : Spec Tryz.prog :=
  (sCNormal h rfl rfl (rby_ne hp)).conv (.one (.a (cC (rone r)))) (congrArg rS (rqd_eq r (rby r)))
def wtB (r : RQ) : Bool:=decide ((rpow r).num.sign ≤ 0)
def wtR (r : RQ) (x : Rat) : R4:=bif wtB r then r40 else fR x
def wtK (r : RQ) : Int:=bif wtB r then 210 else 0
abbrev wtC (r : RQ) : List Lf:=rL (wtR r (rone r).a) ++ rL (wtR r (rone r).b.re) ++ rL (wtR r (rone r).b.im) ++ rL (wtR r (rone r).c)
theorem wt_no {r : RQ} (h : decide ((rpow r).num.sign ≤ 0) = true) : wtC r = c0C ∧ wtK r = 210:=by
  have e : wtB r = true:=h
  exact ⟨by simp only [wtC,wtR,e,cond_true],by rw [wtK,e]; rfl⟩
theorem wt_yes {r : RQ} (h : decide ((rpow r).num.sign ≤ 0) = false) : wtC r = cC (rone r) ∧ wtK r = 0:=by
  have e : wtB r = false:=h
  exact ⟨by simp only [wtC,wtR,e,cond_false],by rw [wtK,e]; rfl⟩
abbrev wtA (r : RQ) : SV:=.tup [.a (wtC r),nI' (wtK r)]
def sCRMake {r : RQ} (h : RSz KC r) : Spec Tryz.prog :=
  ⟨276,Tryz.call276,[.one (.a (fC r.a)),gS r.b,.one (.a (fC r.c))],[],wtA r,[],fun β w hh=>by
    cases hp : decide ((rpow r).num.sign ≤ 0) with
    | true =>
      rw [wtA,(wt_no hp).1,(wt_no hp).2]
      exact spec_auto (evs:=[(sCPower h).e,(sR3Sign (x:=rpow r) rfl).e,.eqv 14 (.bool (decide ((rpow r).num.sign ≤ 0))) (.bool true) (sgn_le hp)]) (Ns:=[]) (m:=400) Tryz.func276 hmA (fun β=>by kernel_rfl) (by kernel_rfl) β w hh
    | false =>
      rw [wtA,(wt_yes hp).1,(wt_yes hp).2]
      exact spec_auto (evs:=[(sCPower h).e,(sR3Sign (x:=rpow r) rfl).e,.eqv 14 (.bool (decide ((rpow r).num.sign ≤ 0))) (.bool false) (sgn_le hp),(sCNorm1 h hp).e]) (Ns:=[]) (m:=400) Tryz.func276 hmA (fun β=>by kernel_rfl) (by kernel_rfl) β w hh,by kernel_rfl⟩
def sCRRound {b : GQ} {c : Rat} (hb : FitG b) (hc : Fit c) : Spec Tryz.prog :=
  Spec.auto Tryz.call216 [gS b,.one (.a (fC c))] [] (wtA (roundQ b c)) [] [(sR3Int 1 (by decide)).e,(sR4Conj b).e,(sR4Neg (gconj b)).e,(sR4Norm (hb.gsz.mono (by decide))).e,(sR3Minus (hb.gsz.norm.mono (by decide)) (hc.sz.mono (by decide))).e,(sCRMake (rd_sz hb hc)).e] [(1,11)] 400 Tryz.func216 hmA (by kernel_rfl) (fun β=>by kernel_rfl)
def sCFits (m : RQ) {b : Bool} (hb : b = true ↔ FitC m) : Spec Tryz.prog :=
  ⟨248,Tryz.call248,[.one (.a (cC m))],[],tB' b,[],fun β w hh=>by
    by_cases h1 : Fit m.a
    · by_cases h2 : FitG m.b
      · have h3 : b = true ↔ Fit m.c:=hb.trans ⟨fun h=>h.2.2,fun h=>⟨h1,h2,h⟩⟩
        cases b <;> exact spec_auto (evs:=[eFFit (iff_true_of h1),(sR4Fits m.b (iff_true_of h2)).e,eFFit h3]) (Ns:=[]) (m:=400) Tryz.func248 hmA (fun β=>by kernel_rfl) (by kernel_rfl) β w hh
      · obtain rfl:=eq_false_of hb fun h=>h2 h.2.1
        exact spec_auto (evs:=[eFFit (iff_true_of h1),(sR4Fits m.b (iff_false_of h2)).e]) (Ns:=[]) (m:=400) Tryz.func248 hmA (fun β=>by kernel_rfl) (by kernel_rfl) β w hh
    · obtain rfl:=eq_false_of hb fun h=>h1 h.1
      exact spec_auto (evs:=[eFFit (iff_false_of h1)]) (Ns:=[]) (m:=400) Tryz.func248 hmA (fun β=>by kernel_rfl) (by kernel_rfl) β w hh,by kernel_rfl⟩
noncomputable def sCTold (m : RQ) : Spec Tryz.prog :=
  ⟨144,Tryz.call144,[.one (.a (cC m))],[],ciA m,[],fun β w hh=>by
    by_cases h : FitC m
    · rw [ciA,(ci_fit h).1,(ci_fit h).2]
      exact spec_auto (evs:=[(sCFits m (iff_true_of h)).e]) (Ns:=[]) (m:=400) Tryz.func144 hmA (fun β=>by kernel_rfl) (by kernel_rfl) β w hh
    · rw [ciA,(ci_not h).1,(ci_not h).2]
      exact spec_auto (evs:=[(sCFits m (iff_false_of h)).e]) (Ns:=[]) (m:=400) Tryz.func144 hmA (fun β=>by kernel_rfl) (by kernel_rfl) β w hh,by kernel_rfl⟩
inductive Fn where
  | ok (x : Rat) (h : Fit x)
  | no (f : Fr) (h : f.a.B = false)
def Fn.fr : Fn → Fr
  | .ok x h=>frX x h
  | .no f _=>f
def Fn.r (a : Fn) : R4:=a.fr.r
def Fn.B : Fn → Bool
  | .ok ..=>true
  | .no ..=>false
theorem fn_of (x : R4) (h : x.s.size ≤ maxLen ∧ x.t.size ≤ maxLen) : ∃ a : Fn,a.r = x:=by
  obtain ⟨⟨r,f,e⟩,rfl⟩:=fr_of x h
  cases f with
  | ok x hx=>exact ⟨.ok x hx,rL_inj e⟩
  | no b c s t hn hs ht=>exact ⟨.no ⟨r,.no b c s t hn hs ht,e⟩ rfl,rfl⟩
def sRatFn (f : Fr) (h : f.a.B = false) : Spec Tryz.prog :=
  ⟨138,Tryz.call138,[.one (.a (rL f.r))],[],.one (.c (.b (.v (.pointer none)))),[],fun β w hh=>by
    obtain ⟨r,a,e⟩:=f
    cases a with
    | ok=>cases h
    | no b c s t hn hs ht =>
      dsimp only
      rw [← e]
      exact (sRatNo hn).ok β w hh,by kernel_rfl⟩
def ratFn : Fn → Spec Tryz.prog
  | .ok _ h=>sRatIn h
  | .no f h=>sRatFn f h
end Go.Proofs.YtimfgjcidigbiaaGreat.Y
end
section
namespace Go.Proofs.YtimfgjcidigbiaaGreat
open Go.RowKit
set_option maxRecDepth 100000 in
theorem Lsh_any {w : World} {b o c p n k : Nat} (hz : Slot w b o 2) (hx : IntAt w c p (n : Int)) (hn : (dig n).length ≤ 8589934592) (hk : k ≤ 137438953472) :
    Calls Tryz.prog 315 #[.pointer (some ⟨b,o,none⟩),.pointer (some ⟨c,p,none⟩),.int .u64 (k : Int)] w fun e w'=>e = .returned (.pointer (some ⟨b,o,none⟩)) ∧ IntAt w' b o ((n * 2 ^ k : Nat) : Int) ∧ Touch w w' b o 2:=by
  obtain ⟨A,m,cap,hc0,hc1,hv,hlt⟩:=hx.open_
  rw [show decide ((n : Int) < 0) = false by simp] at hc0
  rw [Int.natAbs_natCast] at hv
  have hm:=hv.len.1
  rw [← hm] at hn
  have HZ:=Lib.hid hz
  have HV:=Lib.hid hv
  have HC0:=Lib.hid hc0
  have HC1:=Lib.hid hc1
  clear hx hz hv hc0 hc1 hm
  go_enter Tryz.func315,Tryz.ntmps315
  go_wp2
  refine wp_region_acts 12 (fun w'=>Below w.heap.size w w') (fun w w'=>Below w.heap.size w w') (fun i w v=>match i with
      | 0=>v = .pointer (some ⟨b,o,none⟩)
      | 1=>v = .pointer (some ⟨c,p,none⟩)
      | 2=>v = .pointer (some ⟨c,p,none⟩)
      | 3=>v = .pointer (some ⟨c,p,none⟩)
      | 4=>v = .bool false
      | 5=>v = .pointer (some ⟨c,p,none⟩)
      | 6=>v = .pointer (some ⟨c,p,none⟩)
      | 7=>v = .pointer (some ⟨c,p + 1,none⟩)
      | 8=>v = .slice A m cap
      | 9=>v = .int .u64 (k : Int)
      | 10=>v = .int .i64 (k : Int)
      | _=>∃ A' m' c',v = .slice A' m' c' ∧ Words w (.slice A' m' c') (dig (n * 2 ^ k))) (by kernel_rfl) (by kernel_rfl) (by kernel_rfl) ((Below.refl _ _).drew) (fun _ _=>Below.refl _ _) ?_ ⟨?_,?_,?_,?_,?_,?_,?_,?_,?_,?_,?_,?_,trivial⟩ ?_
  · intro i w1 w2 v hC hC2 hE hV
    match i with
    | 0=>exact hV
    | 1=>exact hV
    | 2=>exact hV
    | 3=>exact hV
    | 4=>exact hV
    | 5=>exact hV
    | 6=>exact hV
    | 7=>exact hV
    | 8=>exact hV
    | 9=>exact hV
    | 10=>exact hV
    | _ + 11=>obtain ⟨A',m',c',e,h⟩:=hV; exact ⟨A',m',c',e,h.below hE⟩
  · intro a' w' hag hC hd K hK
    have e0 : a'.tmps.getD 0 undef = .pointer (some ⟨b,o,none⟩):=hag 0 rfl
    go_step
    exact hK _ _ hC (Below.refl _ _) rfl
  · intro a' w' hag hC hd K hK
    have e1 : a'.tmps.getD 1 undef = .pointer (some ⟨c,p,none⟩):=hag 1 rfl
    go_step
    exact hK _ _ hC (Below.refl _ _) rfl
  · intro a' w' hag hC hd K hK
    have e8 : a'.tmps.getD 8 undef = .pointer (some ⟨c,p,none⟩):=hd.1
    go_step
    exact hK _ _ hC (Below.refl _ _) rfl
  · intro a' w' hag hC hd K hK
    have e9 : a'.tmps.getD 9 undef = .pointer (some ⟨c,p,none⟩):=hd.1
    go_step
    exact hK _ _ hC (Below.refl _ _) rfl
  · intro a' w' hag hC hd K hK
    have e10 : a'.tmps.getD 10 undef = .pointer (some ⟨c,p,none⟩):=hd.1
    have hcell : w'.cell? ⟨c,p,none⟩ = some (.bool false):=by rw [hC.cell (p:=⟨c,p,none⟩) hlt]; exact HC0.out
    have HC:=Lib.hid hC
    clear hC
    go_step
    exact hK _ _ HC.out (Below.refl _ _) rfl
  · intro a' w' hag hC hd K hK
    have e1 : a'.tmps.getD 1 undef = .pointer (some ⟨c,p,none⟩):=hag 1 rfl
    go_step
    exact hK _ _ hC (Below.refl _ _) rfl
  · intro a' w' hag hC hd K hK
    have e12 : a'.tmps.getD 12 undef = .pointer (some ⟨c,p,none⟩):=hd.1
    go_step
    exact hK _ _ hC (Below.refl _ _) rfl
  · intro a' w' hag hC hd K hK
    have e13 : a'.tmps.getD 13 undef = .pointer (some ⟨c,p,none⟩):=hd.1
    go_step
    exact hK _ _ hC (Below.refl _ _) rfl
  · intro a' w' hag hC hd K hK
    have e14 : a'.tmps.getD 14 undef = .pointer (some ⟨c,p + 1,none⟩):=hd.1
    have hcell : w'.cell? ⟨c,p + 1,none⟩ = some (.slice A m cap):=by rw [hC.cell (p:=⟨c,p + 1,none⟩) hlt]; exact HC1.out
    have HC:=Lib.hid hC
    clear hC
    go_step
    exact hK _ _ HC.out (Below.refl _ _) rfl
  · intro a' w' hag hC hd K hK
    have e2 : a'.tmps.getD 2 undef = .int .u64 (k : Int):=hag 2 rfl
    go_step
    exact hK _ _ hC (Below.refl _ _) rfl
  · intro a' w' hag hC hd K hK
    have e16 : a'.tmps.getD 16 undef = .int .u64 (k : Int):=hd.1
    go_step
    exact hK _ _ hC (Below.refl _ _) rfl
  · intro a' w' hag hC hd K hK
    have e15 : a'.tmps.getD 15 undef = .slice A m cap:=hd.1
    have e17 : a'.tmps.getD 17 undef = .int .i64 (k : Int):=hd.2.1
    go_step
    refine (left_any (HV.out.below hC) hn k hk).mono ?_
    rintro e w2 ⟨v,rfl,h1,h2⟩
    obtain ⟨A',m',c',rfl⟩:=h1.form
    rw [val_dig] at h1
    exact hK _ _ (hC.trans (h2.mono hC.size)) h2 ⟨_,_,_,rfl,h1⟩
  · intro u w' hC hall
    obtain ⟨u0,u1,u2,u3,u4,u5,u6,u7,u8,u9,u10,u11,_⟩:=hall
    have u0 : u 0 = .pointer (some ⟨b,o,none⟩):=u0
    have u1 : u 1 = .pointer (some ⟨c,p,none⟩):=u1
    have u2 : u 2 = .pointer (some ⟨c,p,none⟩):=u2
    have u3 : u 3 = .pointer (some ⟨c,p,none⟩):=u3
    have u4 : u 4 = .bool false:=u4
    have u5 : u 5 = .pointer (some ⟨c,p,none⟩):=u5
    have u6 : u 6 = .pointer (some ⟨c,p,none⟩):=u6
    have u7 : u 7 = .pointer (some ⟨c,p + 1,none⟩):=u7
    have u8 : u 8 = .slice A m cap:=u8
    have u9 : u 9 = .int .u64 (k : Int):=u9
    have u10 : u 10 = .int .i64 (k : Int):=u10
    obtain ⟨A',m',c',eu11,hw'⟩:=u11
    have u11 : u 11 = .slice A' m' c':=eu11
    simp only [fillR,List.take_succ_cons,List.take_zero,Act.put,List.setIfInBounds_toArray,List.set_cons_succ,List.set_cons_zero,Nat.zero_add,Nat.reduceAdd,u0,u1,u2,u3,u4,u5,u6,u7,u8,u9,u10,u11]
    clear u0 u1 u2 u3 u4 u5 u6 u7 u8 u9 u10 u11
    have HW:=Lib.hid hw'
    have HC:=Lib.hid hC
    have hsl:=HZ.out.on hC
    clear hw' hC
    go_wp2_with (go_at_call 298; refine (is_any false hsl HW.out).mono ?_; rintro e w2 ⟨rfl,h1,h2⟩)
    go_ret
    rw [val_dig] at h1
    exact ⟨rfl,h1,(Touch.of_below HC.out _ _ _).trans h2⟩
set_option maxRecDepth 100000 in
theorem Rsh_any {w : World} {b o c p n k : Nat} (hz : Slot w b o 2) (hx : IntAt w c p (n : Int)) (hk : k ≤ 1099511627776) :
    Calls Tryz.prog 316 #[.pointer (some ⟨b,o,none⟩),.pointer (some ⟨c,p,none⟩),.int .u64 (k : Int)] w fun e w'=>e = .returned (.pointer (some ⟨b,o,none⟩)) ∧ IntAt w' b o ((n / 2 ^ k : Nat) : Int) ∧ Touch w w' b o 2:=by
  obtain ⟨A,m,cap,hc0,hc1,hv,hlt⟩:=hx.open_
  rw [show decide ((n : Int) < 0) = false by simp] at hc0
  rw [Int.natAbs_natCast] at hv
  have hm : m ≤ 17179869184:=by have:=hv.len.1; have:=hv.2.1; omega
  have HZ:=Lib.hid hz
  have HV:=Lib.hid hv
  have HC0:=Lib.hid hc0
  clear hx hz hv
  go_enter Tryz.func316,Tryz.ntmps316
  go_wp2_with fail
  refine (right_any HV.out hm k hk).mono ?_
  rintro e w1 ⟨v,rfl,h1,h2⟩
  obtain ⟨A1,m1,c1,rfl⟩:=h1.form
  rw [val_dig] at h1
  have hd0 : w1.cell? ⟨c,p,none⟩ = some (.bool false):=by rw [h2.cell (p:=⟨c,p,none⟩) hlt]; exact HC0.out
  have hlt1 : c < w1.heap.size:=Nat.lt_of_lt_of_le hlt h2.size
  have HD0:=Lib.hid hd0
  have HW:=Lib.hid h1
  have HB:=Lib.hid h2
  clear h1 h2 hc0 hc1 hd0
  go_wp2
  refine wp_region_acts 16 (fun w'=>Below w1.heap.size w1 w') (fun w w'=>Below w.heap.size w w') (fun i w v=>match i with
      | 0=>v = .pointer (some ⟨c,p,none⟩)
      | 1=>v = .pointer (some ⟨c,p,none⟩)
      | 2=>v = .pointer (some ⟨c,p,none⟩)
      | 3=>v = .bool false
      | 4=>v = .bool false
      | 5=>v = undef
      | 6=>v = undef
      | 7=>v = undef
      | 8=>v = undef
      | 9=>v = undef
      | 10=>v = undef
      | 11=>v = undef
      | 12=>v = undef
      | 13=>v = undef
      | 14=>v = undef
      | _=>v = .bool false) (by kernel_rfl) (by kernel_rfl) (by kernel_rfl) ((Below.refl _ _).drew) (fun _ _=>Below.refl _ _) ?_ ⟨?_,?_,?_,?_,?_,?_,?_,?_,?_,?_,?_,?_,?_,?_,?_,?_,trivial⟩ ?_
  · intro i w1 w2 v hC hC2 hE hV
    match i with
    | 0=>exact hV
    | 1=>exact hV
    | 2=>exact hV
    | 3=>exact hV
    | 4=>exact hV
    | 5=>exact hV
    | 6=>exact hV
    | 7=>exact hV
    | 8=>exact hV
    | 9=>exact hV
    | 10=>exact hV
    | 11=>exact hV
    | 12=>exact hV
    | 13=>exact hV
    | 14=>exact hV
    | _ + 15=>exact hV
  · intro a' w' hag hC hd K hK
    have e1 : a'.tmps.getD 1 undef = .pointer (some ⟨c,p,none⟩):=hag 1 rfl
    go_step
    exact hK _ _ hC (Below.refl _ _) rfl
  · intro a' w' hag hC hd K hK
    have e15 : a'.tmps.getD 15 undef = .pointer (some ⟨c,p,none⟩):=hd.1
    go_step
    exact hK _ _ hC (Below.refl _ _) rfl
  · intro a' w' hag hC hd K hK
    have e16 : a'.tmps.getD 16 undef = .pointer (some ⟨c,p,none⟩):=hd.1
    go_step
    exact hK _ _ hC (Below.refl _ _) rfl
  · intro a' w' hag hC hd K hK
    have e17 : a'.tmps.getD 17 undef = .pointer (some ⟨c,p,none⟩):=hd.1
    have hcell : w'.cell? ⟨c,p,none⟩ = some (.bool false):=by rw [hC.cell (p:=⟨c,p,none⟩) hlt1]; exact HD0.out
    have HC:=Lib.hid hC
    clear hC
    go_step
    exact hK _ _ HC.out (Below.refl _ _) rfl
  · intro a' w' hag hC hd K hK
    have e18 : a'.tmps.getD 18 undef = .bool false:=hd.1
    go_step
    exact hK _ _ hC (Below.refl _ _) rfl
  · intro a' w' hag hC hd
    exact ⟨fun hw=>Bool.noConfusion (hw.symm.trans (unwanted_of (j:=4) (d:=19) (b':=false) rfl rfl rfl hd.1 (by decide))),fun _=>rfl⟩
  · intro a' w' hag hC hd
    exact ⟨fun hw=>Bool.noConfusion (hw.symm.trans (unwanted_of (j:=4) (d:=19) (b':=false) rfl rfl rfl hd.1 (by decide))),fun _=>rfl⟩
  · intro a' w' hag hC hd
    exact ⟨fun hw=>Bool.noConfusion (hw.symm.trans (unwanted_of (j:=4) (d:=19) (b':=false) rfl rfl rfl hd.2.1 (by decide))),fun _=>rfl⟩
  · intro a' w' hag hC hd
    exact ⟨fun hw=>Bool.noConfusion (hw.symm.trans (unwanted_of (j:=4) (d:=19) (b':=false) rfl rfl rfl hd.2.2.1 (by decide))),fun _=>rfl⟩
  · intro a' w' hag hC hd
    exact ⟨fun hw=>Bool.noConfusion (hw.symm.trans (unwanted_of (j:=4) (d:=19) (b':=false) rfl rfl rfl hd.1 (by decide))),fun _=>rfl⟩
  · intro a' w' hag hC hd
    exact ⟨fun hw=>Bool.noConfusion (hw.symm.trans (unwanted_of (j:=4) (d:=19) (b':=false) rfl rfl rfl hd.2.1 (by decide))),fun _=>rfl⟩
  · intro a' w' hag hC hd
    exact ⟨fun hw=>Bool.noConfusion (hw.symm.trans (unwanted_of (j:=4) (d:=19) (b':=false) rfl rfl rfl hd.2.1 (by decide))),fun _=>rfl⟩
  · intro a' w' hag hC hd
    exact ⟨fun hw=>Bool.noConfusion (hw.symm.trans (unwanted_of (j:=4) (d:=19) (b':=false) rfl rfl rfl hd.2.1 (by decide))),fun _=>rfl⟩
  · intro a' w' hag hC hd
    exact ⟨fun hw=>Bool.noConfusion (hw.symm.trans (unwanted_of (j:=4) (d:=19) (b':=false) rfl rfl rfl hd.2.2.2.1 (by decide))),fun _=>rfl⟩
  · intro a' w' hag hC hd
    exact ⟨fun hw=>Bool.noConfusion (hw.symm.trans (unwanted_of (j:=4) (d:=19) (b':=false) rfl rfl rfl hd.2.1 (by decide))),fun _=>rfl⟩
  · intro a' w' hag hC hd K hK
    have e19 : a'.tmps.getD 19 undef = .bool false:=hd.1
    have e29 : a'.tmps.getD 29 undef = undef:=hd.2.1
    go_step
    exact hK _ _ hC (Below.refl _ _) rfl
  · intro u w' hC hall
    obtain ⟨u0,u1,u2,u3,u4,u5,u6,u7,u8,u9,u10,u11,u12,u13,u14,u15,_⟩:=hall
    have u0 : u 0 = .pointer (some ⟨c,p,none⟩):=u0
    have u1 : u 1 = .pointer (some ⟨c,p,none⟩):=u1
    have u2 : u 2 = .pointer (some ⟨c,p,none⟩):=u2
    have u3 : u 3 = .bool false:=u3
    have u4 : u 4 = .bool false:=u4
    have u5 : u 5 = undef:=u5
    have u6 : u 6 = undef:=u6
    have u7 : u 7 = undef:=u7
    have u8 : u 8 = undef:=u8
    have u9 : u 9 = undef:=u9
    have u10 : u 10 = undef:=u10
    have u11 : u 11 = undef:=u11
    have u12 : u 12 = undef:=u12
    have u13 : u 13 = undef:=u13
    have u14 : u 14 = undef:=u14
    have u15 : u 15 = .bool false:=u15
    simp only [fillR,List.take_succ_cons,List.take_zero,Act.put,List.setIfInBounds_toArray,List.set_cons_succ,List.set_cons_zero,Nat.zero_add,Nat.reduceAdd,u0,u1,u2,u3,u4,u5,u6,u7,u8,u9,u10,u11,u12,u13,u14,u15]
    clear u0 u1 u2 u3 u4 u5 u6 u7 u8 u9 u10 u11 u12 u13 u14 u15
    have HC:=Lib.hid hC
    have hc1 : w'.cell? ⟨c,p,none⟩ = some (.bool false):=by rw [hC.cell (p:=⟨c,p,none⟩) hlt1]; exact HD0.out
    have hsl:=(HZ.out.on HB.out).on hC
    have hw2:=HW.out.below hC
    clear hC
    go_wp2_with (go_at_call 298; refine (is_any false hsl hw2).mono ?_; rintro e w2 ⟨rfl,h1,h2⟩)
    go_ret
    rw [val_dig] at h1
    exact ⟨rfl,h1,((Touch.of_below HB.out _ _ _).trans (Touch.of_below HC.out _ _ _)).trans h2⟩
theorem newton_up (n R : Nat) (hR : 0 < R) : n < ((n / R + R) / 2 + 1) * ((n / R + R) / 2 + 1):=by
  have h1 : n < R * (n / R + 1):=by have:=Nat.lt_mul_div_succ n hR; simpa [Nat.mul_add] using this
  generalize n / R = q at h1
  generalize hs : (q + R) / 2 = s
  have h2 : q + 1 + R ≤ 2 * (s + 1):=by omega
  refine Nat.lt_of_lt_of_le h1 ?_
  rcases Nat.le_total R (s + 1) with h | h
  · obtain ⟨d,hd⟩:=Nat.exists_eq_add_of_le h
    rw [hd] at h2 ⊢
    have h3 : q + 1 ≤ R + 2 * d:=by omega
    calc R * (q + 1) ≤ R * (R + 2 * d):=Nat.mul_le_mul_left _ h3
      _ ≤ (R + d) * (R + d):=by rw [Nat.mul_add,Nat.add_mul,Nat.mul_add,Nat.mul_add,Nat.mul_comm d R,Nat.mul_left_comm,Nat.two_mul]; omega
  · obtain ⟨d,hd⟩:=Nat.exists_eq_add_of_le h
    have h3 : q + 1 + 2 * d ≤ R:=by omega
    rw [hd] at h2 ⊢
    have h4 : q + 1 + d ≤ s + 1:=by omega
    calc (s + 1 + d) * (q + 1) = (s + 1) * (q + 1) + d * (q + 1):=by rw [Nat.add_mul]
      _ ≤ (s + 1) * (q + 1) + d * (s + 1):=Nat.add_le_add_left (Nat.mul_le_mul_left _ (by omega)) _
      _ = (s + 1) * (q + 1 + d):=by rw [Nat.mul_add (s + 1) (q + 1) d,Nat.mul_comm d]
      _ ≤ (s + 1) * (s + 1):=Nat.mul_le_mul_left _ h4
theorem newton_end (n R : Nat) (hR : 0 < R) (h : R ≤ (n / R + R) / 2) : R * R ≤ n:=by
  have h1 : R ≤ n / R:=by omega
  exact Nat.le_trans (Nat.mul_le_mul_left _ h1) (Nat.mul_div_le n R)
theorem newton_pos (n R : Nat) (hn : 0 < n) (hR : 0 < R) (h : (n / R + R) / 2 < R) : 0 < (n / R + R) / 2:=by
  rcases Nat.lt_or_ge R 2 with h2 | h2
  · obtain rfl : R = 1:=by omega
    rw [Nat.div_one] at h ⊢
    omega
  · generalize n / R = q at h ⊢
    omega
theorem okn_nat {m k : Nat} (h : m ≤ k) (hk : (dig k).length ≤ 4294967296) : Okn (m : Int):=by
  unfold Okn
  rw [Int.natAbs_natCast]
  exact Nat.le_trans (dig_len_mono _ _ h) hk
theorem cmpI_lt {a b : Nat} (h : a < b) : cmpI (a : Int) (b : Int) = -1:=by
  unfold cmpI
  rw [if_pos (by omega)]
theorem cmpI_ge {a b : Nat} (h : b ≤ a) : cmpI (a : Int) (b : Int) = 0 ∨ cmpI (a : Int) (b : Int) = 1:=by
  unfold cmpI
  rw [if_neg (by omega)]
  by_cases k : (b : Int) < (a : Int)
  · rw [if_pos k]; exact .inr rfl
  · rw [if_neg k]; exact .inl rfl
theorem root_start {n L : Nat} (hn : 0 < n) (h : Bits n L) : 2 ^ (L / 2 + 1) ≤ 4 * n ∧ n < (2 ^ (L / 2 + 1) + 1) * (2 ^ (L / 2 + 1) + 1):=by
  have hL : 0 < L:=by
    rcases Nat.eq_zero_or_pos L with h0 | h0
    · subst h0; have:=h.1; simp at this; omega
    · exact h0
  have h1:=h.2 hL
  have h2:=h.1
  constructor
  · have h3 : 2 ^ (L / 2 + 1) ≤ 2 ^ (L - 1 + 2):=Nat.pow_le_pow_right (by decide) (by omega)
    rw [show 2 ^ (L - 1 + 2) = 2 ^ (L - 1) * 4 from by rw [Nat.pow_add]] at h3
    exact Nat.le_trans h3 (by rw [Nat.mul_comm]; exact Nat.mul_le_mul_left _ h1)
  · have h3 : 2 ^ L ≤ 2 ^ (L / 2 + 1) * 2 ^ (L / 2 + 1):=by
      rw [← Nat.pow_add]
      exact Nat.pow_le_pow_right (by decide) (by omega)
    have h4 : 2 ^ (L / 2 + 1) * 2 ^ (L / 2 + 1) ≤ (2 ^ (L / 2 + 1) + 1) * (2 ^ (L / 2 + 1) + 1):=Nat.mul_le_mul (Nat.le_succ _) (Nat.le_succ _)
    omega
set_option maxHeartbeats 1600000 in
set_option maxRecDepth 100000 in
theorem Sqrt_any {w : World} {b o c p n : Nat} (hz : Slot w b o 2) (hx : IntAt w c p (n : Int)) (hn : (dig (5 * n)).length ≤ 4294967296) :
    Calls Tryz.prog 280 #[.pointer (some ⟨b,o,none⟩),.pointer (some ⟨c,p,none⟩)] w fun e w'=>e = .returned (.pointer (some ⟨b,o,none⟩)) ∧ (∃ r : Nat,r * r ≤ n ∧ n < (r + 1) * (r + 1) ∧ IntAt w' b o (r : Int)) ∧ Touch w w' b o 2:=by
  have HZ:=Lib.hid hz
  have HN:=Lib.hid hn
  rcases Nat.eq_zero_or_pos n with h0 | h0
  · subst h0
    have HX : Hid (IntAt w c p 0):=Lib.hid hx
    clear hz hx hn
    go_enter Tryz.func280,Tryz.ntmps280
    go_wp2_with fail
    refine (sign_any HX.out).mono ?_
    rw [Int.sign_zero]
    rintro e w1 ⟨rfl,rfl⟩
    go_wp2_with fail
    refine (is_any false HZ.out (Words.nil w)).mono ?_
    rintro e w2 ⟨rfl,h1,h2⟩
    have H1:=Lib.hid h1
    have H2:=Lib.hid h2
    clear h1 h2
    go_wp2
    go_ret
    exact ⟨rfl,⟨0,Nat.le_refl _,by decide,H1.out⟩,H2.out⟩
  · have HX:=Lib.hid hx
    have H0:=Lib.hid h0
    have hs : ((n : Nat) : Int).sign = 1:=Int.sign_eq_one_of_pos (by omega)
    clear hz hx hn
    go_enter Tryz.func280,Tryz.ntmps280
    go_wp2_with fail
    refine (sign_any HX.out).mono ?_
    rw [hs]
    rintro e w1 ⟨rfl,rfl⟩
    clear hs h0
    go_wp2_with fail
    have HA:=Lib.hid ((Below.refl w.heap.size w).alloc (Nat.le_refl _) (.cells #[.bool false,.slice none 0 0] 256))
    have HS:=Lib.hid (IntAt.new w).slot
    refine (NewInt_any (n:=1) (by decide)).mono ?_
    rintro e w2 ⟨g1,rfl,hg1,h1,hb1⟩
    have H1:=Lib.hid h1
    have HS2:=Lib.hid (HS.out.on hb1)
    have HB2:=Lib.hid (HA.out.trans (hb1.mono HA.out.size))
    clear h1 hb1 hg1
    go_wp2_with fail
    refine (BitLen_any (HX.out.on HB2.out)).mono ?_
    rintro e w3 ⟨L,rfl,hL,hLb,hb2⟩
    rw [Int.natAbs_natCast] at hL
    obtain ⟨q,hq⟩ : ∃ q,q = L / 2:=⟨_,rfl⟩
    have hqi : (L : Int) / 2 = (q : Int):=by omega
    have hqi2 : (L : Int).tdiv 2 = (q : Int):=by rw [Int.tdiv_eq_ediv_of_nonneg (by omega)]; exact hqi
    obtain ⟨k,hk⟩ : ∃ k,k = q + 1:=⟨_,rfl⟩
    have hki : (q : Int) + 1 = (k : Int):=by omega
    have hkb : k ≤ 274877906945:=by omega
    have hrs:=root_start H0.out hL
    rw [← hq,← hk] at hrs
    have HR:=Lib.hid hrs
    have H1b:=Lib.hid (H1.out.on hb2)
    have HS3:=Lib.hid (HS2.out.on hb2)
    have HB3:=Lib.hid (HB2.out.trans (hb2.mono HB2.out.size))
    have HKL : Hid (k ≤ 137438953472):=by
      have h5 : (dig n).length ≤ 4294967296:=Nat.le_trans (dig_len_mono n (5 * n) (by omega)) HN.out
      have h6:=dig_lt n
      rw [p32] at h6
      obtain ⟨E,hE⟩ : ∃ E : Nat,E = 137438953472:=⟨_,rfl⟩
      have h7 : n < 2 ^ E:=Nat.lt_of_lt_of_le h6 (Nat.pow_le_pow_right (by decide) (by omega))
      have h8 : L ≤ E:=by
        rcases Nat.lt_or_ge E L with h9 | h9
        · have h10:=hL.2 (by omega)
          have h11 : 2 ^ E ≤ 2 ^ (L - 1):=Nat.pow_le_pow_right (by decide) (by omega)
          exact absurd (Nat.lt_of_lt_of_le h7 (Nat.le_trans h11 h10)) (Nat.lt_irrefl _)
        · exact h9
      clear h6 h7 hrs
      show k ≤ 137438953472
      omega
    clear hb2 hL hrs hq hk
    go_wp2_with fail
    refine (Lsh_any (n:=1) (k:=k) HS3.out H1b.out (Nat.le_trans (dig_len_mono 1 (5 * n) (by have:=H0.out; omega)) (Nat.le_trans HN.out (by decide))) HKL.out).mono ?_
    rintro e w4 ⟨rfl,h2,h3⟩
    rw [Nat.one_mul] at h2
    have H2:=Lib.hid h2
    have HB4:=Lib.hid (HB3.out.trans (h3.below (B:=w.heap.size) (Nat.le_refl _) HB3.out.size))
    clear h2 h3
    go_wp2
    go_loopg [5,6] (2 ^ k) (fun m rv sv wr=>∃ (g R : Nat),rv = .pointer (some ⟨g,0,none⟩) ∧ R ≤ m ∧ Hid (w.heap.size ≤ g) ∧ Hid (0 < R) ∧ Hid (R ≤ 4 * n) ∧ Hid (n < (R + 1) * (R + 1)) ∧ Hid (IntAt wr g 0 (R : Int)) ∧ Hid (Below w.heap.size w wr))
    case atStart=>exact ⟨w.heap.size,2 ^ k,rfl,Nat.le_refl _,Nat.le_refl _,Nat.pow_pos (by decide),HR.out.1,HR.out.2,H2.out,HB4.out⟩
    case round =>
      obtain ⟨g,R,rfl,hRm,hg,hR0,hR4,hRn,hr,hb⟩:=hrel
      clear H1 HS HS2 HB2 HS3 HB3 H1b H2 HB4 HA
      go_wp2_with fail
      have hA : Below wr.heap.size wr (wr.alloc (.cells #[.bool false,.slice none 0 0] 256)):=(Below.refl _ _).alloc (Nat.le_refl _) _
      have hS:=(IntAt.new wr).slot
      have hxr:=HX.out.on hb.out
      refine (Quo_any hS (hxr.on hA) (hr.out.on hA) (by have:=hR0.out; omega) (okn_nat (k:=5 * n) (by omega) HN.out)).mono ?_
      rintro e w5 ⟨rfl,h1,h2⟩
      have hq : ((n : Nat) : Int).tdiv ((R : Nat) : Int) = ((n / R : Nat) : Int):=rfl
      rw [hq] at h1
      have B5:=hA.trans (h2.below (B:=wr.heap.size) (Nat.le_refl _) hA.size)
      have HB5:=Lib.hid B5
      have H5:=Lib.hid h1
      clear hA hS hxr h1 h2 B5 hq
      go_wp2_with fail
      have hdn : n / R ≤ n:=Nat.div_le_self _ _
      refine (Add_any H5.out.slot H5.out (hr.out.on HB5.out) (okn_nat (k:=5 * n) (by omega) HN.out) (okn_nat (k:=5 * n) (by have:=hR4.out; omega) HN.out)).mono ?_
      rintro e w6 ⟨rfl,h1,h2⟩
      rw [show ((n / R : Nat) : Int) + ((R : Nat) : Int) = ((n / R + R : Nat) : Int) by omega] at h1
      have HB6:=Lib.hid (HB5.out.trans (h2.below (B:=wr.heap.size) (Nat.le_refl _) HB5.out.size))
      have H6:=Lib.hid h1
      clear h1 h2 hdn
      go_wp2_with fail
      refine (Rsh_any (k:=1) H6.out.slot H6.out (by decide)).mono ?_
      rintro e w7 ⟨rfl,h1,h2⟩
      rw [Nat.pow_one] at h1
      obtain ⟨S,hS⟩ : ∃ S,S = (n / R + R) / 2:=⟨_,rfl⟩
      rw [← hS] at h1
      have HB7:=Lib.hid (HB6.out.trans (h2.below (B:=wr.heap.size) (Nat.le_refl _) HB6.out.size))
      have H7:=Lib.hid h1
      have HSS:=Lib.hid hS
      clear h1 h2 hS
      go_wp2_with fail
      refine (Cmp_any H7.out (hr.out.on HB7.out)).mono ?_
      rintro e w8 ⟨rfl,hb8⟩
      have HB8:=Lib.hid (HB7.out.trans (hb8.mono HB7.out.size))
      have H8:=Lib.hid (H7.out.on hb8)
      clear hb8
      rcases Nat.lt_or_ge S R with hlt | hge
      · rw [cmpI_lt hlt]
        go_wp2
        go_roundg S
        case measure=>exact Nat.lt_of_lt_of_le hlt hRm
        case rel =>
          have e:=HSS.out
          refine ⟨wr.heap.size,S,rfl,Nat.le_refl _,hb.out.size,?_,?_,?_,H8.out,hb.out.trans (HB8.out.mono hb.out.size)⟩
          · rw [Hid,e]; exact newton_pos n R H0.out hR0.out (e ▸ hlt)
          · exact Nat.le_trans (Nat.le_of_lt hlt) hR4.out
          · rw [Hid,e]; exact newton_up n R hR0.out
      · have hend : R * R ≤ n:=newton_end n R hR0.out (HSS.out ▸ hge)
        have HE:=Lib.hid hend
        have hzz : Slot w8 b o 2:=(HZ.out.on hb.out).on HB8.out
        have HZ8:=Lib.hid hzz
        have HR8:=Lib.hid (hr.out.on HB8.out)
        have HT:=Lib.hid (hb.out.trans (HB8.out.mono hb.out.size))
        clear hend hzz
        rcases cmpI_ge hge with h9 | h9
        all_goals
          rw [h9]
          go_wp2_with fail
          refine (set_any HZ8.out HR8.out).mono ?_
          rintro e w9 ⟨rfl,h1,h2⟩
          have K1:=Lib.hid h1
          have K2:=Lib.hid ((Touch.of_below HT.out b o 2).trans h2)
          clear h1 h2
          go_wp2
          go_ret
          exact ⟨rfl,⟨R,HE.out,hRn.out,K1.out⟩,K2.out⟩
end Go.Proofs.YtimfgjcidigbiaaGreat
end
section
namespace Go.Proofs.YtimfgjcidigbiaaGreat.Y
open Go Go.RowKit
set_option maxRecDepth 100000
theorem root_uniq {n a b : Nat} (h1 : a * a ≤ n) (h2 : n < (a + 1) * (a + 1)) (k1 : b * b ≤ n) (k2 : n < (b + 1) * (b + 1)) : a = b:=by
  rcases Nat.lt_trichotomy a b with h | h | h
  · have : (a + 1) * (a + 1) ≤ b * b:=Nat.mul_le_mul h h
    omega
  · exact h
  · have : (b + 1) * (b + 1) ≤ a * a:=Nat.mul_le_mul h h
    omega
def eSqrt {m : Int} {n r : Nat} (i p k : Nat) (hm : m = (n : Int)) (h1 : r * r ≤ n) (h2 : n < (r + 1) * (r + 1)) (hn : (dig (5 * n)).length ≤ 4294967296) : Ev Tryz.prog:=.fill 280 Tryz.call280 (fun β=>#[.pointer (some ⟨(β i).b,0,none⟩),.pointer ((β k).v 0)]) [(k,(intT m).ob)] i 2 p (intT (r : Int))
  (fun β w h ho hs=>by
    obtain ⟨b,hb,kb⟩:=needI (n:=m) (k:=k) h (by simp)
    simp only [hb.1]
    rw [hm] at kb
    refine (Sqrt_any hs kb hn).mono fun e w' ⟨he,⟨r',k1,k2,k3⟩,k4⟩=>?_
    rw [root_uniq h1 h2 k1 k2]
    exact ⟨he,⟨_,ho.at1,k3⟩,k4⟩)
def fSqrt {m : Int} {n r : Nat} (hm : m = (n : Int)) (h1 : r * r ≤ n) (h2 : n < (r + 1) * (r + 1)) (hn : (dig (5 * n)).length ≤ 4294967296) : Ev Tryz.prog:=dyn2 fun i p k=>eSqrt i p k hm h1 h2 hn
def mkI : Ev Tryz.prog:=dynMk 256 2
theorem cmp_root {x y : Rat} {t : Bool} (h : decide (x = y) = t) : Value.bool (cmpQ x y == 0) = .bool t:=by
  rw [← h]
  congr 1
  rw [Bool.eq_iff_iff,beq_iff_eq,decide_eq_true_iff]
  unfold cmpQ
  constructor
  · intro h
    by_cases a : x < y
    · rw [if_pos a] at h; exact absurd h (by decide)
    · by_cases b : y < x
      · rw [if_neg a,if_pos b] at h; exact absurd h (by decide)
      · exact Rat.le_antisymm (Rat.not_lt.1 b) (Rat.not_lt.1 a)
  · rintro rfl
    rw [if_neg Rat.lt_irrefl,if_neg Rat.lt_irrefl]
theorem nat_sign {m : Int} {n : Nat} (h : m = (n : Int)) : Value.bool (decide (m.sign < 0)) = .bool false:=by
  rw [h]
  cases n <;> rfl
end Go.Proofs.YtimfgjcidigbiaaGreat.Y
end
section
namespace Go.Proofs.YtimfgjcidigbiaaGreat.Y
open Go Go.RowKit
set_option maxRecDepth 100000
def alOf (ob : List Ob) (j : Nat) : Nat:=match ob[j]? with
  | some (.al i _)=>i
  | _=>0
theorem one_at {g : Pl} {b : Nat} (h : g.one) (k : At1 g b) : b = g.b:=((k.2 g.b).1 ((h.1 _).2 rfl)).symm
end Go.Proofs.YtimfgjcidigbiaaGreat.Y
end
section
namespace Go.Proofs.YtimfgjcidigbiaaGreat
open Go.RowKit
theorem fracV_inj {x y : Rat} (h : fracV x = fracV y) : x = y:=by
  obtain ⟨h1,h2,_,h4⟩:=agg4 h
  have e1 : x.num = y.num:=sg_inj h1 (mag_inj h2)
  have e2 : x.den = y.den:=mag_inj h4
  exact Rat.ext e1 e2
end Go.Proofs.YtimfgjcidigbiaaGreat
end
section
namespace Go.Proofs.YtimfgjcidigbiaaGreat.Y
open Go Go.RowKit
set_option maxRecDepth 100000
def z4 : List Lf:=[.b (.v (.bool false)),.b (.v (.slice none 0 0)),.b (.v (.bool false)),.b (.v (.slice none 0 0))]
theorem RatAt.zero {w : World} {b : Nat} (hb : w.heap[b]? = some (.cells #[.bool false,.slice none 0 0,.bool false,.slice none 0 0] 258 (0,0))) : RatAt w b 0 0:=by
  refine ⟨⟨_,_,hb,by decide,by simp⟩,⟨⟨_,_,hb,by decide,by simp⟩,?_,.slice none 0 0,?_,?_⟩,0,⟨⟨_,_,hb,by decide,by simp⟩,?_,.slice none 0 0,?_,?_⟩,.inr ⟨rfl,rfl⟩⟩
  · rw [cell_of_row _ _ _ _ _ _ hb]; rfl
  · rw [cell_of_row _ _ _ _ _ _ hb]; rfl
  · rw [show (0 : Rat).num = 0 from rfl,Int.natAbs_zero,dig_zero]; exact Words.nil _
  · rw [cell_of_row _ _ _ _ _ _ hb]; rfl
  · rw [cell_of_row _ _ _ _ _ _ hb]; rfl
  · rw [Int.natAbs_zero,dig_zero]; exact Words.nil _
theorem okr0 : Sz KB (0 : Rat):=sz_zero.mono (by decide)
def eSum0 {y : Rat} (i n k : Nat) (hy : Sz KB y) : Ev Tryz.prog:=.refill 256 Tryz.call256 (fun β=>#[.pointer (some ⟨(β i).b,0,none⟩),.pointer (some ⟨(β i).b,0,none⟩),.pointer ((β k).v 0)]) [(i,.box z4 258),(k,(ratT y).ob)] i i 4 n (ratT (0 + y))
  (fun β w h hji ho hs=>by
    have hb : (Ob.box z4 258).holds β w (β i):=h (i,.box z4 258) (by simp)
    obtain ⟨b,hb2,kb⟩:=needP (x:=y) (k:=k) h (by simp)
    simp only [hb2.1]
    exact fillP ho (rAdd_any hs (RatAt.zero hb.2) kb (okr0.okR2 (by decide)) (hy.okR2 (by decide))))
def eSumP {x y : Rat} (i j n k : Nat) (hx : Sz KB x) (hy : Sz KB y) : Ev Tryz.prog:=.refill 256 Tryz.call256 (fun β=>#[.pointer (some ⟨(β i).b,0,none⟩),.pointer (some ⟨(β i).b,0,none⟩),.pointer ((β k).v 0)]) [(j,(ratT x).ob),(k,(ratT y).ob)] i j 4 n (ratT (x + y))
  (fun β w h hji ho hs=>by
    obtain ⟨a,ha,ka⟩:=needP (x:=x) (k:=j) h (by simp)
    obtain ⟨b,hb,kb⟩:=needP (x:=y) (k:=k) h (by simp)
    have e:=one_at ho (hji ▸ ha)
    subst e
    simp only [hb.1]
    exact fillP ho (rAdd_any hs ka kb (hx.okR2 (by decide)) (hy.okR2 (by decide))))
def eSumZ {x y : Rat} (i j n k : Nat) (hx : Sz KB x) (hy : Sz KB y) : Ev Tryz.prog:=.refill 256 Tryz.call256 (fun β=>#[.pointer ((β j).v 0),.pointer ((β j).v 0),.pointer ((β k).v 0)]) [(j,(ratT x).ob),(k,(ratT y).ob)] i j 4 n (ratT (x + y))
  (fun β w h hji ho hs=>by
    obtain ⟨a,ha,ka⟩:=needP (x:=x) (k:=j) h (by simp)
    obtain ⟨b,hb,kb⟩:=needP (x:=y) (k:=k) h (by simp)
    have e:=one_at ho (hji ▸ ha)
    subst e
    simp only [ha.1,hb.1]
    exact fillP ho (rAdd_any hs ka kb (hx.okR2 (by decide)) (hy.okR2 (by decide))))
def sum0 {y : Rat} (hy : Sz KB y) : Ev Tryz.prog:=.dyn (fun o _ _=>isCallB o) fun _ xs ob=>lit ob.length fun n=>lit (ptOf (xs.getD 0 undefS)) fun i=>lit (ptOf (xs.getD 2 undefS)) fun k=>eSum0 i n k hy
def sumN {x y : Rat} (hx : Sz KB x) (hy : Sz KB y) : Ev Tryz.prog:=.dyn (fun o _ _=>isCallB o) fun _ xs ob=>lit ob.length fun n=>lit (ptOf (xs.getD 2 undefS)) fun k=>match xs.getD 0 undefS with
  | .one (.c (.b (.p i _)))=>lit i fun i=>lit ((findA i ob 0).getD 0) fun j=>eSumP i j n k hx hy
  | .one (.c (.b (.z j _)))=>lit j fun j=>lit (alOf ob j) fun i=>eSumZ i j n k hx hy
  | _=>.eqv 0 undef undef rfl
abbrev KD5 : Nat:=5000
section
variable {f g h : Nat → Rat} (hf : ∀ n,Sz KD5 (f n)) (hg : ∀ n,Sz KD5 (g n)) (hh : ∀ n,Sz KD5 (h n))
theorem mone8 : Sz 8 (Rat.divInt (-1) 1):=sz_lit (-1) 1 (by decide) (by decide) (by decide)
end
end Go.Proofs.YtimfgjcidigbiaaGreat.Y
end
section
namespace Go.Proofs.YtimfgjcidigbiaaGreat.Y
open Go Go.RowKit
set_option maxRecDepth 100000
theorem sz1_le : sz 1 ≤ 1000000000:=Nat.le_trans (m:=1) (sz_le.2 (by decide)) (by decide)
theorem sz2_le : sz 2 ≤ 1000000000:=Nat.le_trans (m:=1) (sz_le.2 (by decide)) (by decide)
def sR3Small (n m : Int) (hn : -9223372036854775808 ≤ n ∧ n ≤ 9223372036854775807) (hm : -9223372036854775808 ≤ m ∧ m ≤ 9223372036854775807) (h0 : m ≠ 0) (sn : sz n ≤ 1000000000) (sm : sz m ≤ 1000000000) : Spec Tryz.prog :=
  Spec.auto Tryz.call114 [.one (svI n),.one (svI m)] [] (.one (.a (fC (Rat.divInt n m)))) [] [eWOf n hn,eWOf m hm,eFOf sn sm h0] [] 400 Tryz.func114 hmA (by kernel_rfl) (fun β=>by kernel_rfl)
section
variable {p q r : Pt} (hp : FitP p) (hq : FitP q) (hr : FitP r)
theorem hf_sz : Sz 8 (Rat.divInt 1 2):=sz_lit 1 2 (by decide) (by decide) (by decide)
end
end Go.Proofs.YtimfgjcidigbiaaGreat.Y
end
section
namespace Go.Proofs.YtimfgjcidigbiaaGreat.Y
open Go Go.RowKit
set_option maxRecDepth 100000
def valQ (r : RQ) (z : GQ) : Rat:=0 + r.a * gnorm z + ((gmul r.b z).re + (gmul r.b z).re) + r.c
def sidQ (r : RQ) : Pt → Rat
  | .inf=>r.a
  | .fin z=>valQ r z
theorem cmp_self (x : Rat) : cmpQ x x = 0:=by
  have h : (!(cmpQ x x == 0)) = false ∨ (!(cmpQ x x == 0)) = true:=by cases (!(cmpQ x x == 0)) <;> simp
  unfold cmpQ
  simp
theorem gsub_self (z : GQ) : gzero (gsub z z) = true:=by
  rw [gz_true]
  refine GQ.ext2 ?_ ?_ <;> (simp only [gsub,g0]; grind)
noncomputable def sRSame {r : RQ} (h : RSz KC r) : Spec Tryz.prog :=
  Spec.auto Tryz.call195 [rgV 0,rgV 4] (rgT r ++ rgT r) (tB' true) [] [nCmp (h.a.mono (by decide)) (h.a.mono (by decide)) (cmp_self r.a),(sSame (h.b.mono (by decide)) (h.b.mono (by decide)) (gsub_self r.b)).e,nCmp (h.c.mono (by decide)) (h.c.mono (by decide)) (cmp_self r.c)] [] 400 Tryz.func195 hmA (by kernel_rfl) (fun β=>by kernel_rfl)
structure MayC (r : RQ) : Prop where
  fit : FitC r
  pow : decide ((rpow r).num.sign ≤ 0) = false
  one : rone r = r
theorem MayC.sz {r : RQ} (h : MayC r) : RSz KC r:=mk_sz h.fit.1 h.fit.2.1 h.fit.2.2
def Spec.newsTo {P : Program} (S : Spec P) (l : List Thing) (h : S.news = l) : Spec P :=
  ⟨S.f,S.en,S.args,S.obs,S.res,l,fun β w hh=>by rw [← h]; exact S.ok β w hh,by rw [← h]; exact S.closed⟩
noncomputable def sRNorm1 {r : RQ} (h : MayC r) : Spec Tryz.prog :=
  (sRNormal h.sz rfl rfl (rby_ne h.pow)).newsTo (rgT r) (by show rgT (rone r) = rgT r; rw [h.one])
noncomputable def sWheel {r : RQ} (h : MayC r) : Spec Tryz.prog :=
  Spec.auto Tryz.call95 [.one (.a (cC r))] [] (.tup [.a [.b (.z 0 0),.b (.z 1 0),.b (.z 2 0),.b (.z 3 0)],.c (.b (.v (.bool true)))]) (rgT r)
    [(ofG h.fit.2.1).e,(sRatIn h.fit.1).e,(sRatIn h.fit.2.2).e,dEq r.a,dEq r.c,(sPower h.sz).e,nSign (x:=rpow r) rfl,.eqv 37 (.bool (decide ((rpow r).num.sign ≤ 0))) (.bool false) (sgn_le h.pow),(sRNorm1 h).e,(sRSame h.sz).e] [(2,9),(5,5)] 1200 Tryz.func95 hmA (by kernel_rfl) (fun β=>by kernel_rfl)
noncomputable def sCCheck {r : RQ} (h : MayC r) : Spec Tryz.prog :=
  Spec.auto Tryz.call27 [.one (.a (cC r))] [] (.one (nI' 0)) [] [(sWheel h).e] [] 400 Tryz.func27 hmA (by kernel_rfl) (fun β=>by kernel_rfl)
end Go.Proofs.YtimfgjcidigbiaaGreat.Y
end
section
namespace Go.Proofs.YtimfgjcidigbiaaGreat.Y
open Go Go.RowKit
set_option maxRecDepth 100000
theorem den_three (β : Env) (n : Nat) (b : Bool) (p q : Pl) : (SV.one (.a [.b (.v (.bool b)),.b (.z n 0),.b (.z (n + 1) 0)])).den (extE β n [p,q]) = .agg #[.bool b,.pointer (p.v 0),.pointer (q.v 0)]:=by
  have h1:=extE_in (β:=β) (n:=n) (i:=0) (xs:=[p,q]) rfl
  have h2:=extE_in (β:=β) (n:=n) (i:=1) (xs:=[p,q]) rfl
  rw [Nat.add_zero] at h1
  simp [SV.den,SC.den,Lf.den,Lf0.den,h1,h2]
def rdPlace (d t : Nat) (e : TypeId) (cs : List Cd) (o : Nat) (b : Bool) (x y : Rat) (hb : cs[o]? = some (.v (.bool b))) (hx : cs[o + 1]? = some (.r x)) (hy : cs[o + 2]? = some (.r y)) (k n : Nat) : Ev Tryz.prog :=
  .rd d (.load 122 (.tmp t)) (fun β=>[.pointer (some ⟨(β k).b,o,none⟩)]) [(k,(rowT e cs).ob)] n (.one (.a [.b (.v (.bool b)),.b (.z n 0),.b (.z (n + 1) 0)])) [ratM x,ratM y] (fun β w h ρ op ho hx'=>by
    have h1 : RW e cs w (β k):=h (k,(rowT e cs).ob) (by simp)
    have h2 : ρ (.tmp t) = .pointer (some ⟨(β k).b,o,none⟩):=by simpa [Op.operands] using hx'
    have p1:=cdOk_at h1.2.1.1 hx
    have p2:=cdOk_at h1.2.1.1 hy
    rw [Nat.zero_add] at p1 p2
    refine ⟨[cellPl (β k) (o + 1),cellPl (β k) (o + 2)],w,fun g hg c hc=>.inr ⟨(k,(rowT e cs).ob),by simp,rfl,?_⟩,?_,⟨cellPl_or p1,cellPl_or p2,trivial⟩,Below.refl _ _⟩
    · rcases List.mem_cons.1 hg with rfl | hg
      · exact cellPl_F p1 hc
      · obtain rfl:=List.mem_singleton.1 hg
        exact cellPl_F p2 hc
    · have hr : w.rangeAt (β k).b o [.bool b,.pointer ((β k).v (o + 1)),.pointer ((β k).v (o + 2))]:=fun j v hv=>by
        match j,hv with
        | 0,hv=>simp only [List.getElem?_cons_zero] at hv; obtain rfl:=Option.some.inj hv; exact rw_cell h1 hb
        | 1,hv=>simp only [List.getElem?_cons_succ,List.getElem?_cons_zero] at hv; obtain rfl:=Option.some.inj hv; exact rw_cell h1 hx
        | 2,hv=>simp only [List.getElem?_cons_succ,List.getElem?_cons_zero] at hv; obtain rfl:=Option.some.inj hv; exact rw_cell h1 hy
        | j + 3,hv=>simp at hv
      have hl:=run_loadAt_mid (P:=Tryz.prog) w (β k).b o 122 _ _ hr Tryz.underlying122 (by kernel_rfl) (by kernel_rfl)
      rw [den_three]
      unfold execOp
      rw [ho]
      simp only [h2]
      simp [hl,Result.andThen]
      exact ⟨rfl,rfl⟩)
def dPlace (e : TypeId) (cs : List Cd) : Ev Tryz.prog:=.dyn (fun o xs ob=>match o.op with
  | .load T (.tmp _)=>Nat.beq T 122 && isAd (xs.getD 0 undefS) && (match ob[(adOf (xs.getD 0 undefS)).1]? with | some (.th _)=>true | _=>false)
  | _=>false) fun o xs ob=>match o.op with
  | .load _ (.tmp t)=>lit (adOf (xs.getD 0 undefS)).1 fun k=>lit (adOf (xs.getD 0 undefS)).2 fun off=>lit ob.length fun n=>match hb : cs[off]?,hx : cs[off + 1]?,hy : cs[off + 2]? with
    | some (.v (.bool b)),some (.r x),some (.r y)=>rdPlace (o.dst.getD 0) t e cs off b x y hb hx hy k n
    | _,_,_=>.eqv 0 undef undef rfl
  | _=>.eqv 0 undef undef rfl
def rdIdxP (d t : Nat) (e : TypeId) (cs : List Cd) (ix : Operand) (n j : Nat) (hj : Nat.blt j n = true) (k : Nat) : Ev Tryz.prog :=
  .rd d (.indexAddr 170 (.tmp t) ix) (fun β=>[.slice ((β k).v cs.length) n ((β k).c cs.length),.int .i64 (j : Int)]) [(k,(rowT e cs).ob)] 0 (.one (.c (.b (.p k (j * 3))))) [] (fun β w h ρ op ho hx'=>by
    have h1 : RW e cs w (β k):=h (k,(rowT e cs).ob) (by simp)
    have h2 : ρ (.tmp t) = .slice (some ⟨(β k).b,0,none⟩) n ((β k).c cs.length) ∧ ρ ix = .int .i64 (j : Int):=by
      rw [h1.2.1.2] at hx'
      simpa [Op.operands] using hx'
    rw [Nat.blt_eq] at hj
    refine ⟨[],w,(fun _ h=>by cases h),?_,trivial,Below.refl _ _⟩
    rw [extE_nil]
    unfold execOp
    rw [ho]
    simp only [h2.1,h2.2]
    have hi:=run_indexAt_slice (P:=Tryz.prog) w 170 ⟨(β k).b,0,none⟩ n ((β k).c cs.length) .i64 (j : Int) (by kernel_rfl)
    have hsz : (sizeOf (Tryz.prog.elem 170)).run Tryz.prog w = .ok 3 w:=by kernel_rfl
    rw [if_pos ⟨by omega,by omega⟩,hsz,Result.andThen_ok,Int.toNat_natCast] at hi
    have ha : (⟨(β k).b,0,none⟩ : Addr).add (j * 3) = ⟨(β k).b,j * 3,none⟩:=by
      simp [Addr.add]
      exact fun h=>h.symm
    rw [ha] at hi
    simp only [Sem.run_bind,hi,Result.andThen_ok]
    rfl)
def dIdxP (e : TypeId) (cs : List Cd) : Ev Tryz.prog:=.dyn (fun o xs ob=>match o.op with
  | .indexAddr _ (.tmp _) _=>isY (xs.getD 0 undefS)
  | _=>false) fun o xs ob=>match o.op with
  | .indexAddr _ (.tmp t) ix=>lit (yOf (xs.getD 0 undefS)).1 fun k=>lit (yOf (xs.getD 0 undefS)).2 fun n=>lit (intS (xs.getD 1 undefS)) fun j=>if h : Nat.blt j n = true then rdIdxP (o.dst.getD 0) t e cs ix n j h k else .eqv 0 undef undef rfl
  | _=>.eqv 0 undef undef rfl
abbrev PLT : TypeId:=122
theorem or_cd {w : World} {g G : Pl} {x : Rat} {i : Nat} (h : OR0 x w g) (hv : G.v i = g.v 0) (hF : ∀ c,g.F c → G.F c) : cdP w G i (.r x):=by
  rcases h with ⟨h1,_,h3⟩ | ⟨b,h1,h2⟩
  · exact .inl ⟨hv.trans h1,h3⟩
  · exact .inr ⟨b,hv.trans h1.1,hF b ((h1.2 b).2 rfl),h2⟩
end Go.Proofs.YtimfgjcidigbiaaGreat.Y
end
section
namespace Go.Proofs.YtimfgjcidigbiaaGreat.Y
open Go Go.RowKit
set_option maxRecDepth 100000
abbrev ptI (n m : Int) : Pt:=.fin (gint n m)
theorem ptI_fit {n m : Int} (h : n.natAbs < 256) (k : m.natAbs < 256) : FitP (ptI n m):=fit_int h k
theorem rq_lit {r s : RQ} (h1 : decide (r.a = s.a) = true) (h2 : decide (r.b.re = s.b.re) = true) (h3 : decide (r.b.im = s.b.im) = true) (h4 : decide (r.c = s.c) = true) : r = s:=by
  obtain ⟨a,⟨b,b'⟩,c⟩:=r
  obtain ⟨d,⟨e,e'⟩,f⟩:=s
  obtain rfl : a = d:=of_decide_eq_true h1
  obtain rfl : b = e:=of_decide_eq_true h2
  obtain rfl : b' = e':=of_decide_eq_true h3
  obtain rfl : c = f:=of_decide_eq_true h4
  rfl
end Go.Proofs.YtimfgjcidigbiaaGreat.Y
end
section
namespace Go.Proofs.YtimfgjcidigbiaaGreat.Y
open Go Go.RowKit
theorem spec_yes {P : Program} (S : Spec P) (ho : S.obs = []) (hr : S.res = .one (.c (.b (.v (.bool true))))) (w : World) : Calls P S.f (S.args.map (SV.den idE)).toArray w fun e w'=>e = .returned (.bool true) ∧ Below w.heap.size w w':=by
  refine (S.ok idE w (by rw [ho]; intro k t h; simp at h)).mono ?_
  rintro e w' ⟨xs,_,rfl,_,hb⟩
  exact ⟨by rw [hr]; rfl,hb⟩
end Go.Proofs.YtimfgjcidigbiaaGreat.Y
end
section
namespace Go.Proofs.YtimfgjcidigbiaaGreat.Y
open Go Go.RowKit
set_option maxRecDepth 100000
def sR4MayG (a : Gn) {r : Bool} (h : a.B = r) : Spec Tryz.prog :=
  (sR4May a.gp.a.a a.gp.b.a).as [gnS a] (tB' r) (by
    show [SV.one (.a (a.gp.a.a.C ++ a.gp.b.a.C))] = [SV.one (.a (rL a.gp.a.r ++ rL a.gp.b.r))]
    rw [show a.gp.a.a.C = rL a.gp.a.r from a.gp.a.e,show a.gp.b.a.C = rL a.gp.b.r from a.gp.b.e]) (congrArg tB' (a.gpB.trans h))
end Go.Proofs.YtimfgjcidigbiaaGreat.Y
end
section
namespace Go.Proofs.YtimfgjcidigbiaaGreat.Y
open Go Go.RowKit
set_option maxRecDepth 100000
def any4 : List Thing:=[anyT,anyT,anyT,anyT]
abbrev rx0 : SC:=.a [.b (.v (.pointer none)),.b (.v (.pointer none)),.b (.v (.pointer none)),.b (.v (.pointer none))]
abbrev rgC (k : Nat) : SC:=.a [.b (.z k 0),.b (.z (k + 1) 0),.b (.z (k + 2) 0),.b (.z (k + 3) 0)]
def WheelNo (l : List Lf) : Prop:=∀ (β : Env) (w : World),Calls Tryz.prog 95 (([.one (.a l)] : List SV).map (SV.den β)).toArray w fun e w'=>∃ xs : List Pl,freshS β w 0 xs ∧ e = .returned ((SV.tup [rgC 0,.c (.b (.v (.bool false)))]).den (extE β 0 xs)) ∧ newHold w' any4 xs ∧ Below w.heap.size w w'
def sWheelNo {l : List Lf} (h : WheelNo l) (hl : l.all (Lf.of fun _=>false) = true) : Spec Tryz.prog :=
  ⟨95,Tryz.call95,[.one (.a l)],[],.tup [rgC 0,.c (.b (.v (.bool false)))],any4,fun β w _=>h β w,by
    have : l.all (Lf.of fun k=>Nat.blt k 0) = true:=List.all_eq_true.2 fun x hx=>Lf.of_mono (fun _ hk=>by cases hk) x (List.all_eq_true.1 hl x hx)
    rw [Bool.and_eq_true]
    exact ⟨by rw [List.all_cons,List.all_nil,Bool.and_true]; exact this,by kernel_rfl⟩⟩
theorem nil4 {P : Program} {f : FuncId} {args : Array Value} {w : World} {β : Env}
    (h : Calls P f args w fun e w'=>∃ xs : List Pl,freshS β w 0 xs ∧ e = .returned ((SV.tup [rx0,.c (.b (.v (.bool false)))]).den (extE β 0 xs)) ∧ newHold w' [] xs ∧ Below w.heap.size w w') :
    Calls P f args w fun e w'=>∃ xs : List Pl,freshS β w 0 xs ∧ e = .returned ((SV.tup [rgC 0,.c (.b (.v (.bool false)))]).den (extE β 0 xs)) ∧ newHold w' any4 xs ∧ Below w.heap.size w w' :=
  h.mono fun e w' ⟨xs,h1,he,h2,h3⟩=>by
    have hn : AN w' nilPl:=fun _ h=>h.elim
    exact ⟨[nilPl,nilPl,nilPl,nilPl],fun x hx c hc=>by
      simp only [List.mem_cons,List.not_mem_nil,or_false,or_self] at hx
      subst hx
      exact hc.elim,by rw [he]; kernel_rfl,⟨hn,hn,hn,hn,trivial⟩,h3⟩
theorem newHoldR4 {w : World} {t1 t2 t3 t4 : Thing} {xs : List Pl} (h : newHold w [t1,t2,t3,t4] xs) : newHold w any4 xs:=by
  match xs,h with
  | [a,b,c,d],h=>exact ⟨an_of t1.st h.1,an_of t2.st h.2.1,an_of t3.st h.2.2.1,an_of t4.st h.2.2.2.1,trivial⟩
theorem wheelNum (a : Fn) (b : Gn) (c : Fn) (h : (a.B && (b.B && c.B)) = false) : WheelNo (rL a.r ++ (rL b.x ++ rL b.y) ++ rL c.r):=fun β w=>by
  refine nil4 ?_
  have hh : ∀ (k : Nat) (t : Thing),([] : List Thing)[k]? = some t → t.D w (β k):=fun k t h=>by simp at h
  cases b with
  | no g hg=>cases a with
    | ok x hx=>cases c with
      | ok y hy=>exact spec_auto (obs:=[]) (news:=[]) (res:=.tup [rx0,.c (.b (.v (.bool false)))]) (evs:=[(sOfW g.a g.b (r:=false) hg).e,(ratFn (.ok x hx)).e,(ratFn (.ok y hy)).e]) (Ns:=[(2,9),(5,5)]) (m:=800) Tryz.func95 hmA (fun β=>by kernel_rfl) (by kernel_rfl) β w hh
      | no k hk=>exact spec_auto (obs:=[]) (news:=[]) (res:=.tup [rx0,.c (.b (.v (.bool false)))]) (evs:=[(sOfW g.a g.b (r:=false) hg).e,(ratFn (.ok x hx)).e,(ratFn (.no k hk)).e]) (Ns:=[(2,9),(5,5)]) (m:=800) Tryz.func95 hmA (fun β=>by kernel_rfl) (by kernel_rfl) β w hh
    | no f hf=>cases c with
      | ok y hy=>exact spec_auto (obs:=[]) (news:=[]) (res:=.tup [rx0,.c (.b (.v (.bool false)))]) (evs:=[(sOfW g.a g.b (r:=false) hg).e,(ratFn (.no f hf)).e,(ratFn (.ok y hy)).e]) (Ns:=[(2,9),(5,5)]) (m:=800) Tryz.func95 hmA (fun β=>by kernel_rfl) (by kernel_rfl) β w hh
      | no k hk=>exact spec_auto (obs:=[]) (news:=[]) (res:=.tup [rx0,.c (.b (.v (.bool false)))]) (evs:=[(sOfW g.a g.b (r:=false) hg).e,(ratFn (.no f hf)).e,(ratFn (.no k hk)).e]) (Ns:=[(2,9),(5,5)]) (m:=800) Tryz.func95 hmA (fun β=>by kernel_rfl) (by kernel_rfl) β w hh
  | ok z hz=>cases a with
    | no f hf=>cases c with
      | ok y hy=>exact spec_auto (obs:=[]) (news:=[]) (res:=.tup [rx0,.c (.b (.v (.bool false)))]) (evs:=[(ofG hz).e,(sRatFn f hf).e,(ratFn (.ok y hy)).e]) (Ns:=[(2,9),(5,5)]) (m:=800) Tryz.func95 hmA (fun β=>by kernel_rfl) (by kernel_rfl) β w hh
      | no k hk=>exact spec_auto (obs:=[]) (news:=[]) (res:=.tup [rx0,.c (.b (.v (.bool false)))]) (evs:=[(ofG hz).e,(sRatFn f hf).e,(ratFn (.no k hk)).e]) (Ns:=[(2,9),(5,5)]) (m:=800) Tryz.func95 hmA (fun β=>by kernel_rfl) (by kernel_rfl) β w hh
    | ok x hx=>cases c with
      | ok=>cases h
      | no f hf=>exact spec_auto (obs:=[]) (news:=[]) (res:=.tup [rx0,.c (.b (.v (.bool false)))]) (evs:=[(ofG hz).e,(sRatIn hx).e,(sRatFn f hf).e,dEq x]) (Ns:=[(2,9),(5,5)]) (m:=800) Tryz.func95 hmA (fun β=>by kernel_rfl) (by kernel_rfl) β w hh
section
variable {r : RQ} (hf : FitC r)
include hf in
theorem fitC_sz : RSz KC r:=mk_sz hf.1 hf.2.1 hf.2.2
include hf in
theorem wheelPow (hp : decide ((rpow r).num.sign ≤ 0) = true) : WheelNo (cC r):=fun β w=>by
  refine nil4 ?_
  exact spec_auto (obs:=[]) (news:=[]) (res:=.tup [rx0,.c (.b (.v (.bool false)))]) (evs:=[(ofG hf.2.1).e,(sRatIn hf.1).e,(sRatIn hf.2.2).e,dEq r.a,dEq r.c,(sPower (fitC_sz hf)).e,nSign (x:=rpow r) rfl,.eqv 37 (.bool (decide ((rpow r).num.sign ≤ 0))) (.bool true) (sgn_le hp)]) (Ns:=[(2,9),(5,5)]) (m:=1200) Tryz.func95 hmA (fun β=>by kernel_rfl) (by kernel_rfl) β w (fun k t h=>by simp at h)
theorem cmpQ_ne {x y : Rat} (h : x ≠ y) : cmpQ x y = -1 ∨ cmpQ x y = 1:=by
  unfold cmpQ
  by_cases h1 : x < y
  · exact .inl (if_pos h1)
  · by_cases h2 : y < x
    · exact .inr (by rw [if_neg h1,if_pos h2])
    · exact absurd (Rat.le_antisymm (Rat.not_lt.1 h2) (Rat.not_lt.1 h1)) h
theorem gsub_ne {z w : GQ} (h : z ≠ w) : gzero (gsub z w) = false:=by
  rw [Bool.eq_false_iff]
  intro e
  rw [gz_true] at e
  apply h
  have h1:=congrArg GQ.re e
  have h2:=congrArg GQ.im e
  simp only [gsub,g0] at h1 h2
  exact GQ.ext2 (by grind) (by grind)
theorem cmpQ_same {x y : Rat} (h : x = y) : cmpQ x y = 0:=by rw [h]; exact cmp_self y
abbrev smO (r s : RQ) : List Thing:=rgT s ++ rgT r
theorem same_ok {r s : RQ} (h : RSz KC r) (k : RSz KC s) (hne : s ≠ r) (β : Env) (w : World) (hh : ∀ (i : Nat) (t : Thing),(smO r s)[i]? = some t → t.D w (β i)) :
    Calls Tryz.prog 195 (([rgV 0,rgV 4] : List SV).map (SV.den β)).toArray w fun e w'=>∃ xs : List Pl,freshS β w 8 xs ∧ e = .returned ((tB' false : SV).den (extE β 8 xs)) ∧ newHold w' [] xs ∧ Below w.heap.size w w':=by
  by_cases h1 : s.a = r.a
  · by_cases h2 : s.b = r.b
    · have h3 : s.c ≠ r.c:=fun h3=>hne (by cases s; cases r; simp only at h1 h2 h3; subst h1 h2 h3; rfl)
      rcases cmpQ_ne h3 with h3 | h3 <;> exact spec_auto (args:=[rgV 0,rgV 4]) (obs:=smO r s) (res:=tB' false) (news:=[]) (evs:=[nCmp (k.a.mono (by decide)) (h.a.mono (by decide)) (cmpQ_same h1),(sSame (k.b.mono (by decide)) (h.b.mono (by decide)) (b:=true) (by rw [h2]; exact gsub_self r.b)).e,nCmp (k.c.mono (by decide)) (h.c.mono (by decide)) h3]) (Ns:=[]) (m:=400) Tryz.func195 hmA (fun β=>by kernel_rfl) (by kernel_rfl) β w hh
    · exact spec_auto (args:=[rgV 0,rgV 4]) (obs:=smO r s) (res:=tB' false) (news:=[]) (evs:=[nCmp (k.a.mono (by decide)) (h.a.mono (by decide)) (cmpQ_same h1),(sSame (k.b.mono (by decide)) (h.b.mono (by decide)) (b:=false) (gsub_ne h2)).e]) (Ns:=[]) (m:=400) Tryz.func195 hmA (fun β=>by kernel_rfl) (by kernel_rfl) β w hh
  · rcases cmpQ_ne h1 with h1 | h1 <;> exact spec_auto (args:=[rgV 0,rgV 4]) (obs:=smO r s) (res:=tB' false) (news:=[]) (evs:=[nCmp (k.a.mono (by decide)) (h.a.mono (by decide)) h1]) (Ns:=[]) (m:=400) Tryz.func195 hmA (fun β=>by kernel_rfl) (by kernel_rfl) β w hh
def sRSameNo {r s : RQ} (h : RSz KC r) (k : RSz KC s) (hne : s ≠ r) : Spec Tryz.prog :=
  ⟨195,Tryz.call195,[rgV 0,rgV 4],smO r s,tB' false,[],same_ok h k hne,by kernel_rfl⟩
noncomputable def sRNorm2 {r : RQ} (h : RSz KC r) (hp : decide ((rpow r).num.sign ≤ 0) = false) : Spec Tryz.prog :=
  (sRNormal h rfl rfl (rby_ne hp)).newsTo (rgT (rone r)) rfl
theorem rone_sz2 {r : RQ} (h : FitC r) (hp : decide ((rpow r).num.sign ≤ 0) = false) : RSz KC (rone r) :=
  (rnm_sz (k:=1024) ⟨h.1.sz,h.2.1.gsz,h.2.2.sz⟩ (rby_sz ⟨h.1.sz,h.2.1.gsz,h.2.2.sz⟩ _ _) (rby_ne hp)).mono (by decide)
include hf in
theorem wheelOne (hp : decide ((rpow r).num.sign ≤ 0) = false) (hne : rone r ≠ r) : WheelNo (cC r):=fun β w=>by
  refine (spec_auto (obs:=[]) (news:=rgT r) (res:=.tup [rgC 0,.c (.b (.v (.bool false)))]) (evs:=[(ofG hf.2.1).e,(sRatIn hf.1).e,(sRatIn hf.2.2).e,dEq r.a,dEq r.c,(sPower (fitC_sz hf)).e,nSign (x:=rpow r) rfl,.eqv 37 (.bool (decide ((rpow r).num.sign ≤ 0))) (.bool false) (sgn_le hp),(sRNorm2 (fitC_sz hf) hp).e,(sRSameNo (fitC_sz hf) (rone_sz2 hf hp) hne).e]) (Ns:=[(2,9),(5,5)]) (m:=1200) Tryz.func95 hmA (fun β=>by kernel_rfl) (by kernel_rfl) β w (fun k t h=>by simp at h)).mono ?_
  rintro e w' ⟨xs,h1,he,h2,h3⟩
  exact ⟨xs,h1,he,newHoldR4 h2,h3⟩
end
structure CkNo (l : List Lf) : Prop where
  cl : l.all (Lf.of fun _=>false) = true
  prog : ∀ (β : Env) (w : World),Calls Tryz.prog 27 (([.one (.a l)] : List SV).map (SV.den β)).toArray w fun e w'=>e = .returned (.int .i64 2) ∧ Below w.heap.size w w'
  ref : ∀ (β : Env) (w : World),Calls Tryz.prog 121 (([.one (.a l)] : List SV).map (SV.den β)).toArray w fun e w'=>e = .returned (.int .i64 2) ∧ Below w.heap.size w w'
theorem of_cl {l : List Lf} (hl : l.all (Lf.of fun _=>false) = true) : (([SV.one (.a l)] : List SV).all (SV.of fun k=>Nat.blt k 0) && (SV.one (nI' 2)).of fun k=>Nat.blt k (0 + 0)) = true:=by
  have : l.all (Lf.of fun k=>Nat.blt k 0) = true:=List.all_eq_true.2 fun x hx=>Lf.of_mono (fun _ hk=>by cases hk) x (List.all_eq_true.1 hl x hx)
  rw [Bool.and_eq_true]
  exact ⟨by rw [List.all_cons,List.all_nil,Bool.and_true]; exact this,by kernel_rfl⟩
def sCkNo {l : List Lf} (h : CkNo l) : Spec Tryz.prog :=
  ⟨27,Tryz.call27,[.one (.a l)],[],.one (nI' 2),[],fun β w _=>(h.prog β w).mono fun e w' ⟨he,hb⟩=>⟨[],(fun _ h=>by cases h),by rw [he]; rfl,trivial,hb⟩,of_cl h.cl⟩
def sRCkNo {l : List Lf} (h : CkNo l) : Spec Tryz.prog :=
  ⟨121,Tryz.call121,[.one (.a l)],[],.one (nI' 2),[],fun β w _=>(h.ref β w).mono fun e w' ⟨he,hb⟩=>⟨[],(fun _ h=>by cases h),by rw [he]; rfl,trivial,hb⟩,of_cl h.cl⟩
theorem rl_cl (a b c d : R4) : (rL a ++ (rL b ++ rL c) ++ rL d).all (Lf.of fun _=>false) = true:=rfl
theorem two_of {f : FuncId} {l : List Lf} {w : World} {β : Env} (h : Calls Tryz.prog f (([.one (.a l)] : List SV).map (SV.den β)).toArray w fun e w'=>∃ xs : List Pl,freshS β w 0 xs ∧ e = .returned ((SV.one (nI' 2)).den (extE β 0 xs)) ∧ newHold w' [] xs ∧ Below w.heap.size w w') :
    Calls Tryz.prog f (([.one (.a l)] : List SV).map (SV.den β)).toArray w fun e w'=>e = .returned (.int .i64 2) ∧ Below w.heap.size w w':=h.mono fun e w' ⟨xs,_,he,_,hb⟩=>⟨by rw [he]; rfl,hb⟩
theorem ckProg (a b c d : R4) (h : WheelNo (rL a ++ (rL b ++ rL c) ++ rL d)) (β : Env) (w : World) : Calls Tryz.prog 27 (([.one (.a (rL a ++ (rL b ++ rL c) ++ rL d))] : List SV).map (SV.den β)).toArray w fun e w'=>e = .returned (.int .i64 2) ∧ Below w.heap.size w w' :=
  two_of (spec_auto (obs:=[]) (news:=[]) (res:=.one (nI' 2)) (evs:=[(sWheelNo h (rl_cl a b c d)).e]) (Ns:=[]) (m:=400) Tryz.func27 hmA (fun β=>by kernel_rfl) (by kernel_rfl) β w (fun k t h=>by simp at h))
def sR3MayQ (a : Fn) {r : Bool} (h : a.B = r) : Spec Tryz.prog :=
  ⟨44,Tryz.call44,[.one (.a (rL a.r))],[],tB' r,[],fun β w hh=>by
    rw [← h]
    cases a with
    | ok x hx =>
      have:=(Fp.may3 (.ok x hx)).ok β w hh
      exact this
    | no f hf =>
      obtain ⟨r,a,e⟩:=f
      cases a with
      | ok x hx=>cases hf
      | no b c s t hn hs ht =>
        have:=(Fp.may3 (.no b c s t hn hs ht)).ok β w hh
        show Calls _ _ (([SV.one (.a (rL r))] : List SV).map (SV.den β)).toArray w _
        rw [← e]
        exact this,by kernel_rfl⟩
theorem ckNum (a : Fn) (b : Gn) (c : Fn) (h : (a.B && (b.B && c.B)) = false) (β : Env) (w : World) : Calls Tryz.prog 121 (([.one (.a (rL a.r ++ (rL b.x ++ rL b.y) ++ rL c.r))] : List SV).map (SV.den β)).toArray w fun e w'=>e = .returned (.int .i64 2) ∧ Below w.heap.size w w':=by
  have hh : ∀ (k : Nat) (t : Thing),([] : List Thing)[k]? = some t → t.D w (β k):=fun k t h=>by simp at h
  refine two_of ?_
  cases h1 : a.B with
  | false=>exact spec_auto (obs:=[]) (news:=[]) (res:=.one (nI' 2)) (evs:=[(sR3MayQ a h1).e]) (Ns:=[(3,9)]) (m:=400) Tryz.func121 hmA (fun β=>by kernel_rfl) (by kernel_rfl) β w hh
  | true=>cases h2 : b.B with
    | false=>exact spec_auto (obs:=[]) (news:=[]) (res:=.one (nI' 2)) (evs:=[(sR3MayQ a h1).e,(sR4MayG b h2).e]) (Ns:=[(3,9)]) (m:=400) Tryz.func121 hmA (fun β=>by kernel_rfl) (by kernel_rfl) β w hh
    | true=>cases h3 : c.B with
      | false=>exact spec_auto (obs:=[]) (news:=[]) (res:=.one (nI' 2)) (evs:=[(sR3MayQ a h1).e,(sR4MayG b h2).e,(sR3MayQ c h3).e]) (Ns:=[(3,9)]) (m:=400) Tryz.func121 hmA (fun β=>by kernel_rfl) (by kernel_rfl) β w hh
      | true=>rw [h1,h2,h3] at h; cases h
section
variable {r : RQ} (hf : FitC r)
noncomputable def ckE (r : RQ) (hf : FitC r) : List (Ev Tryz.prog):=[(sR3MayQ (.ok r.a hf.1) rfl).e,(sR4MayG (.ok r.b hf.2.1) rfl).e,(sR3MayQ (.ok r.c hf.2.2) rfl).e,(sCPower (fitC_sz hf)).e,(sR3Sign (x:=rpow r) rfl).e]
include hf in
theorem ckPow (hp : decide ((rpow r).num.sign ≤ 0) = true) (β : Env) (w : World) : Calls Tryz.prog 121 (([.one (.a (cC r))] : List SV).map (SV.den β)).toArray w fun e w'=>e = .returned (.int .i64 2) ∧ Below w.heap.size w w' :=
  two_of (spec_auto (obs:=[]) (news:=[]) (res:=.one (nI' 2)) (evs:=ckE r hf ++ [.eqv 23 (.bool (decide ((rpow r).num.sign ≤ 0))) (.bool true) (sgn_le hp)]) (Ns:=[(3,9)]) (m:=400) Tryz.func121 hmA (fun β=>by kernel_rfl) (by kernel_rfl) β w (fun k t h=>by simp at h))
abbrev eqRone (r s : RQ) : Bool:=(fR r.a).eq (fR s.a) && (geq (fR r.b.re) (fR r.b.im) (fR s.b.re) (fR s.b.im) && ((fR r.c).eq (fR s.c) && true))
theorem eqRone_iff {r s : RQ} : eqRone r s = true ↔ r = s:=by
  unfold eqRone geq
  simp only [Bool.and_true,Bool.and_eq_true,R4.eq_iff]
  constructor
  · rintro ⟨h1,⟨h2,h3⟩,h4⟩
    obtain ⟨a,⟨b,b'⟩,c⟩:=r
    obtain ⟨d,⟨e,e'⟩,f⟩:=s
    obtain rfl : a = d:=fR_inj h1
    obtain rfl : b = e:=fR_inj h2
    obtain rfl : b' = e':=fR_inj h3
    obtain rfl : c = f:=fR_inj h4
    rfl
  · rintro rfl
    exact ⟨rfl,⟨rfl,rfl⟩,rfl⟩
def eqEvR (r s : RQ) {t : Bool} (h : eqRone r s = t) : Ev Tryz.prog:=eqEvC (fR r.a) (fR r.b.re) (fR r.b.im) (fR r.c) (fR s.a) (fR s.b.re) (fR s.b.im) (fR s.c) t h
include hf in
theorem ckOne (hp : decide ((rpow r).num.sign ≤ 0) = false) (hne : rone r ≠ r) (β : Env) (w : World) : Calls Tryz.prog 121 (([.one (.a (cC r))] : List SV).map (SV.den β)).toArray w fun e w'=>e = .returned (.int .i64 2) ∧ Below w.heap.size w w' :=
  two_of (spec_auto (obs:=[]) (news:=[]) (res:=.one (nI' 2)) (evs:=ckE r hf ++ [.eqv 23 (.bool (decide ((rpow r).num.sign ≤ 0))) (.bool false) (sgn_le hp),(sCNorm1 (fitC_sz hf) hp).e,eqEvR (rone r) r (t:=false) (Bool.eq_false_iff.2 fun e=>hne (eqRone_iff.1 e))]) (Ns:=[(3,9)]) (m:=400) Tryz.func121 hmA (fun β=>by kernel_rfl) (by kernel_rfl) β w (fun k t h=>by simp at h))
end
noncomputable def sRCk {r : RQ} (h : MayC r) : Spec Tryz.prog :=
  Spec.auto Tryz.call121 [.one (.a (cC r))] [] (.one (nI' 0)) [] (ckE r h.fit ++ [.eqv 23 (.bool (decide ((rpow r).num.sign ≤ 0))) (.bool false) (sgn_le h.pow),(sCNorm1 (fitC_sz h.fit) h.pow).e,eqEvR (rone r) r (t:=true) (eqRone_iff.2 h.one)]) [(3,9)] 400 Tryz.func121 hmA (by kernel_rfl) (fun β=>by kernel_rfl)
theorem cC_eq (r : RQ) : cC r = rL (fR r.a) ++ (rL (fR r.b.re) ++ rL (fR r.b.im)) ++ rL (fR r.c):=by
  unfold cC
  simp only [List.append_assoc]
theorem ckNoOf {r : RQ} (h : WheelNo (cC r)) (k : ∀ (β : Env) (w : World),Calls Tryz.prog 121 (([.one (.a (cC r))] : List SV).map (SV.den β)).toArray w fun e w'=>e = .returned (.int .i64 2) ∧ Below w.heap.size w w') :
    CkNo (rL (fR r.a) ++ (rL (fR r.b.re) ++ rL (fR r.b.im)) ++ rL (fR r.c)):=by
  rw [cC_eq] at h
  refine ⟨rl_cl ..,ckProg _ _ _ _ h,fun β w=>?_⟩
  have:=k β w
  rw [cC_eq] at this
  exact this
theorem ckNoNum (x : Fn) (z : Gn) (y : Fn) (h : (x.B && (z.B && y.B)) = false) : CkNo (rL x.r ++ (rL z.x ++ rL z.y) ++ rL y.r):=⟨rl_cl ..,ckProg _ _ _ _ (wheelNum x z y h),ckNum x z y h⟩
inductive Cp where
  | ok (r : RQ) (h : MayC r)
  | no (a b b' c : R4) (h : CkNo (rL a ++ (rL b ++ rL b') ++ rL c))
def Cp.L : Cp → List Lf
  | .ok r _=>cC r
  | .no a b b' c _=>rL a ++ (rL b ++ rL b') ++ rL c
def Cp.B : Cp → Bool
  | .ok ..=>true
  | .no ..=>false
def Cp.a : Cp → R4
  | .ok r _=>fR r.a
  | .no a _ _ _ _=>a
def Cp.b : Cp → R4
  | .ok r _=>fR r.b.re
  | .no _ b _ _ _=>b
def Cp.b' : Cp → R4
  | .ok r _=>fR r.b.im
  | .no _ _ b _ _=>b
def Cp.c : Cp → R4
  | .ok r _=>fR r.c
  | .no _ _ _ c _=>c
theorem cp_of (a b b' c : R4) (ha : a.s.size ≤ maxLen ∧ a.t.size ≤ maxLen) (hb : b.s.size ≤ maxLen ∧ b.t.size ≤ maxLen) (hb' : b'.s.size ≤ maxLen ∧ b'.t.size ≤ maxLen) (hc : c.s.size ≤ maxLen ∧ c.t.size ≤ maxLen) : ∃ p : Cp,p.a = a ∧ p.b = b ∧ p.b' = b' ∧ p.c = c:=by
  obtain ⟨x,rfl⟩:=fn_of a ha
  obtain ⟨z,rfl,rfl⟩:=gn_of b b' hb hb'
  obtain ⟨y,rfl⟩:=fn_of c hc
  cases h : (x.B && (z.B && y.B)) with
  | false=>exact ⟨.no x.r z.x z.y y.r (ckNoNum x z y h),rfl,rfl,rfl,rfl⟩
  | true =>
    cases x with
    | no=>cases h
    | ok x hx=>cases z with
      | no=>cases h
      | ok z hz=>cases y with
        | no=>cases h
        | ok y hy =>
          have hf : FitC ⟨x,z,y⟩:=⟨hx,hz,hy⟩
          cases hp : decide ((rpow ⟨x,z,y⟩).num.sign ≤ 0) with
          | true=>exact ⟨.no (fR x) (fR z.re) (fR z.im) (fR y) (ckNoOf (wheelPow hf hp) (ckPow hf hp)),rfl,rfl,rfl,rfl⟩
          | false =>
            by_cases hne : rone ⟨x,z,y⟩ = ⟨x,z,y⟩
            · exact ⟨.ok ⟨x,z,y⟩ ⟨hf,hp,hne⟩,rfl,rfl,rfl,rfl⟩
            · exact ⟨.no (fR x) (fR z.re) (fR z.im) (fR y) (ckNoOf (wheelOne hf hp hne) (ckOne hf hp hne)),rfl,rfl,rfl,rfl⟩
end Go.Proofs.YtimfgjcidigbiaaGreat.Y
end
