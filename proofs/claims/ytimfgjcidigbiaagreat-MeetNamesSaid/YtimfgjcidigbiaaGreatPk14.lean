/- SyC, MtF, SyM, MtG. -/
import Derived.Test.YtimfgjcidigbiaaGreatPk13
set_option linter.unnecessarySimpa false
set_option linter.unusedVariables false
set_option linter.unusedSimpArgs false
section
namespace Go.Proofs.YtimfgjcidigbiaaGreat.Y
open Go Go.RowKit
inductive Stop (P : Program) where
  | ended (f : Cf P)
  | head (c : Code) (ks : List Kf) (f : Cf P)
def Stop.cf {P : Program} : Stop P → Cf P
  | .ended f=>f
  | .head _ _ f=>f
def runP (P : Program) (m0 n : Nat) (Ns : List (Nat × Nat)) : Nat → Option Code → List Kf → Cf P → Option (Stop P)
  | 0,_,_,_=>none
  | m + 1,oc,ks,f=>match oc with
    | none=>match ks with
      | []=>some (.ended f)
      | .sq c :: r=>runP P m0 n Ns m (some c) r f
      | .bl _ :: r=>runP P m0 n Ns m none r f
      | .lp c :: r=>match f.ev with
        | .cut :: ev'=>some (.head c r { f with ev:=ev' })
        | _=>runP P m0 n Ns m (some c) (.lp c :: r) f
      | .sc :: r=>runP P m0 n Ns m none r f
    | some c=>match c with
      | .skip=>runP P m0 n Ns m none ks f
      | .label _=>runP P m0 n Ns m none ks f
      | .region id ops d=>match (bif d then drawS1 P m0 n Ns id ops.toList f else seqS P m0 n ops ops.toList f) with
        | some f'=>runP P m0 n Ns m none ks f'
        | none=>none
      | .seq a b=>runP P m0 n Ns m (some a) (.sq b :: ks) f
      | .cond x a b=>match evS idE f.sl x with
        | .bool true=>runP P m0 n Ns m (some a) ks { f with cs:=(fun β=>[(.v (evS β f.sl x),.v (.bool true))]) :: f.cs }
        | .bool false=>runP P m0 n Ns m (some b) ks { f with cs:=(fun β=>[(.v (evS β f.sl x),.v (.bool false))]) :: f.cs }
        | _=>none
      | .block id c=>runP P m0 n Ns m (some c) (.bl id :: ks) f
      | .loop c=>match f.ev with
        | .cut :: ev'=>some (.head c ks { f with ev:=ev' })
        | _=>runP P m0 n Ns m (some c) (.lp c :: ks) f
      | .scope c=>runP P m0 n Ns m (some c) (.sc :: ks) f
      | .exit id=>match popTo id ks with
        | some r=>runP P m0 n Ns m none r f
        | none=>none
      | .ret=>some (.ended f)
      | _=>none
def Stop.after {P : Program} (Q : Exit → Act → World → Prop) (a : Act) (w : World) : Stop P → Prop
  | .ended _=>Q .normal a w ∧ Q .ret a w
  | .head c ks _=>Rounds P c (post P Q ks) a w
theorem Sync.ev {P : Program} {m0 n : Nat} {B0 : Bd} {w0 : World} {c : Cf P} {β : Env} {a : Act} {w : World} (h : Sync P m0 n B0 w0 c β a w) (x : List (Ev P)) : Sync P m0 n B0 w0 { c with ev:=x } β a w:=⟨h.good,h.q,h.sl,h.of,h.m0,h.defers,h.uq⟩
theorem runP_ok {P : Program} {m0 n : Nat} {Ns : List (Nat × Nat)} (hm : P.follows .mixedOrders = true) : ∀ (m : Nat) (oc : Option Code) (ks : List Kf) (f : Cf P) (s : Stop P),runP P m0 n Ns m oc ks f = some s → f.full → (∀ x ∈ f.cs,x ∈ s.cf.cs) ∧ s.cf.full ∧
    (s.cf.good → ∀ {B0 : Bd} {w0 : World} {β : Env} {a : Act} {w : World},Sync P m0 n B0 w0 f β a w → ∀ (Q : Exit → Act → World → Prop),(∀ β' a' w',(∀ k,k < B0.k → β' k = β k) → Sync P m0 n B0 w0 s.cf β' a' w' → s.after Q a' w') → toShow P Q oc ks a w):=by
  intro m
  induction m with
  | zero=>intro oc ks f f' h; simp only [runP] at h; cases h
  | succ m ih =>
    intro oc ks f f' h hf
    simp only [runP] at h
    cases oc with
    | none =>
      dsimp only at h
      cases ks with
      | nil =>
        obtain rfl:=Option.some.inj h
        exact ⟨fun _ hx=>hx,hf,fun _ B0 w0 β a w s Q hQ=>(hQ β a w (fun _ _=>rfl) s).1⟩
      | cons x r =>
        cases x with
        | sq c=>obtain ⟨i1,i2,i3⟩:=ih _ _ _ _ h hf; exact ⟨i1,i2,fun hg B0 w0 β a w s Q hQ=>i3 hg s Q hQ⟩
        | bl j =>
          obtain ⟨i1,i2,i3⟩:=ih _ _ _ _ h hf
          exact ⟨i1,i2,fun hg B0 w0 β a w s Q hQ=>i3 hg s Q hQ⟩
        | lp c =>
          dsimp only at h
          split at h
          · obtain rfl:=Option.some.inj h
            exact ⟨fun _ hx=>hx,hf,fun _ B0 w0 β a w s Q hQ=>hQ β a w (fun _ _=>rfl) (s.ev _)⟩
          · obtain ⟨i1,i2,i3⟩:=ih _ _ _ _ h hf
            exact ⟨i1,i2,fun hg B0 w0 β a w s Q hQ=>rounds_one (i3 hg s Q hQ)⟩
        | sc=>obtain ⟨i1,i2,i3⟩:=ih _ _ _ _ h hf; exact ⟨i1,i2,fun hg B0 w0 β a w s Q hQ=>i3 hg s Q hQ⟩
    | some c =>
      cases c with
      | skip=>obtain ⟨i1,i2,i3⟩:=ih _ _ _ _ h hf; exact ⟨i1,i2,fun hg B0 w0 β a w s Q hQ=>wp_skip (i3 hg s Q hQ)⟩
      | label l=>obtain ⟨i1,i2,i3⟩:=ih _ _ _ _ h hf; exact ⟨i1,i2,fun hg B0 w0 β a w s Q hQ=>wp_label (i3 hg s Q hQ)⟩
      | region rid ops d =>
        dsimp only at h
        split at h
        · rename_i f1 h1
          cases d with
          | true =>
            simp only [cond_true] at h1
            have hf1:=drawS1_full h1 hf
            obtain ⟨i1,i2,i3⟩:=ih _ _ _ _ h hf1
            obtain ⟨j1,j2⟩:=drawS1_ok hm h1 (fun k hk=>(hf.1 k).1 hk) hf.2
            refine ⟨fun x hx=>i1 x (j1 x hx),i2,fun hg B0 w0 β a w s Q hQ=>?_⟩
            have:=j2 (fun β x hx=>hg β x (i1 x hx)) s (post P Q ks) fun β' a' w' e s'=>i3 hg s' Q fun β2 a2 w2 e2 s2=>hQ β2 a2 w2 (fun k hk=>(e2 k hk).trans (e k hk)) s2
            simp only [Array.toArray_toList] at this
            exact this
          | false =>
            simp only [cond_false] at h1
            have hf1:=seqS_full h1 hf
            obtain ⟨i1,i2,i3⟩:=ih _ _ _ _ h hf1
            obtain ⟨j1,j2⟩:=seqS_ok h1
            exact ⟨fun x hx=>i1 x (j1 x hx),i2,fun hg B0 w0 β a w s Q hQ=>wp_region_list (j2 (fun β x hx=>hg β x (i1 x hx)) s (post P Q ks) fun β' a' w' e s'=>i3 hg s' Q fun β2 a2 w2 e2 s2=>hQ β2 a2 w2 (fun k hk=>(e2 k hk).trans (e k hk)) s2)⟩
        · cases h
      | seq c d=>obtain ⟨i1,i2,i3⟩:=ih _ _ _ _ h hf; exact ⟨i1,i2,fun hg B0 w0 β a w s Q hQ=>wp_seq (i3 hg s Q hQ)⟩
      | cond x c d =>
        dsimp only at h
        split at h
        · obtain ⟨i1,i2,i3⟩:=ih _ _ _ _ h hf
          refine ⟨fun y hy=>i1 y (List.mem_cons_of_mem _ hy),i2,fun hg B0 w0 β a w s Q hQ=>?_⟩
          obtain ⟨e,_⟩:=Eqs.cons_ok (hg β _ (i1 _ (List.mem_cons_self ..)))
          injection e with e
          exact wp_cond_true (by rw [s.sl.eval]; exact e) (i3 hg (s.cs _) Q hQ)
        · obtain ⟨i1,i2,i3⟩:=ih _ _ _ _ h hf
          refine ⟨fun y hy=>i1 y (List.mem_cons_of_mem _ hy),i2,fun hg B0 w0 β a w s Q hQ=>?_⟩
          obtain ⟨e,_⟩:=Eqs.cons_ok (hg β _ (i1 _ (List.mem_cons_self ..)))
          injection e with e
          exact wp_cond_false (by rw [s.sl.eval]; exact e) (i3 hg (s.cs _) Q hQ)
        · cases h
      | block j c=>obtain ⟨i1,i2,i3⟩:=ih _ _ _ _ h hf; exact ⟨i1,i2,fun hg B0 w0 β a w s Q hQ=>wp_block (i3 hg s Q hQ)⟩
      | loop c =>
        dsimp only at h
        split at h
        · obtain rfl:=Option.some.inj h
          exact ⟨fun _ hx=>hx,hf,fun _ B0 w0 β a w s Q hQ=>rounds_loop (hQ β a w (fun _ _=>rfl) (s.ev _))⟩
        · obtain ⟨i1,i2,i3⟩:=ih _ _ _ _ h hf
          exact ⟨i1,i2,fun hg B0 w0 β a w s Q hQ=>rounds_loop (rounds_one (i3 hg s Q hQ))⟩
      | rangeFunc _ _ _ _=>cases h
      | exit j =>
        dsimp only at h
        split at h
        · rename_i r hr
          obtain ⟨i1,i2,i3⟩:=ih _ _ _ _ h hf
          exact ⟨i1,i2,fun hg B0 w0 β a w s Q hQ=>wp_exit (post_exit hr (i3 hg s Q hQ))⟩
        · cases h
      | scope c=>obtain ⟨i1,i2,i3⟩:=ih _ _ _ _ h hf; exact ⟨i1,i2,fun hg B0 w0 β a w s Q hQ=>wp_scope_straight (i3 hg s Q hQ)⟩
      | goto _=>cases h
      | ret =>
        obtain rfl:=Option.some.inj h
        exact ⟨fun _ hx=>hx,hf,fun _ B0 w0 β a w s Q hQ=>wp_ret (post_ret (hQ β a w (fun _ _=>rfl) s).2 ks)⟩
      | refuse _=>cases h
def loopsOf : Nat → Code → List Kf → List (Code × List Kf)
  | 0,_,_=>[]
  | m + 1,c,ks=>match c with
    | .seq a b=>loopsOf m a (.sq b :: ks) ++ loopsOf m b ks
    | .cond _ a b=>loopsOf m a ks ++ loopsOf m b ks
    | .block id c=>loopsOf m c (.bl id :: ks)
    | .loop c=>(c,ks) :: loopsOf m c (.lp c :: ks)
    | .scope c=>loopsOf m c (.sc :: ks)
    | _=>[]
def lpAt (fn : Func) (i : Nat) : Code × List Kf:=match fn.body with
  | some c=>(loopsOf 200 c []).getD i (.skip,[])
  | none=>(.skip,[])
def Stop.pos {P : Program} : Stop P → Option (Code × List Kf)
  | .ended _=>none
  | .head c ks _=>some (c,ks)
def mkC (P : Program) (n u : Nat) (sl : List (Nat × SV)) (ob : List Ob) (ev : List (Ev P)) : Cf P :=
  ⟨sl ++ (List.range n).map fun t=>(t,.one (.c (.b (.gh u t)))),fun k=>Nat.blt k ob.length,ob,ev,[]⟩
def tEq1 (β : Env) (σ : List Nat) : Env:=fun j=>β (σ.getD j 0)
def opaqB (u t : Nat) : SV → Bool
  | .one (.c (.b (.gh k i)))=>Nat.beq k u && Nat.beq i t
  | _=>false
def layB : Ob → Bool
  | .box _ _=>true
  | .row _ _ _ _=>true
  | _=>false
def deadB : Ob → Bool
  | .dead=>true
  | _=>false
def kindB : Ob → Ob → Bool
  | .th _,.th _=>true
  | .al _ _,.th _=>true
  | .box _ _,.box _ _=>true
  | .row _ _ _ _,.row _ _ _ _=>true
  | _,.dead=>true
  | _,_=>false
def wkB (m0 u : Nat) (obS obT : List Ob) (σ : List Nat) : Bool :=
  Nat.beq σ.length obT.length && Nat.ble m0 u && Nat.blt u obT.length && (List.range m0).all (fun i=>Nat.beq (σ.getD i 0) i) &&
  (List.range obT.length).all fun j=>match obT[j]? with
    | none=>false
    | some x=>(bif Nat.beq j u then deadB x else match obS[σ.getD j 0]? with
        | none=>false
        | some y=>kindB y x && x.of (fun k=>Nat.blt k obT.length && !Nat.beq k u)) &&
      (bif layB x then (!Nat.ble m0 j || Nat.ble m0 (σ.getD j 0)) && (List.range obT.length).all (fun i=>Nat.beq i j || (Nat.beq i u || ((match obT[i]? with | some y=>deadB y | none=>false) || !Nat.beq (σ.getD i 0) (σ.getD j 0)))) else true)
def wkOb (β : Env) (σ : List Nat) : Ob → Ob → Eqs
  | .box cs t,.box cs' t'=>[(.n t,.n t'),(.v (.agg (cs.map (Lf.den β)).toArray),.v (.agg (cs'.map (Lf.den (tEq1 β σ))).toArray))]
  | .row cs t n sz,.row cs' t' n' sz'=>[(.n t,.n t'),(.n n,.n n'),(.n sz,.n sz'),(.v (.agg (cs.map (Lf.den β)).toArray),.v (.agg (cs'.map (Lf.den (tEq1 β σ))).toArray))]
  | y,.th t=>[(.ob (y.plain (.th t)),.ob (.th t))]
  | _,_=>[]
def wkObs (β : Env) (obS : List Ob) (σ : List Nat) : List Ob → Nat → Eqs
  | [],_=>[]
  | x :: r,j=>(match obS[σ.getD j 0]? with | some y=>wkOb β σ y x | none=>(match x with | .dead=>[] | _=>Eqs.no)) ++ wkObs β obS σ r (j + 1)
def wkSl (β : Env) (u L : Nat) (σ : List Nat) (slS slT : List (Nat × SV)) : Nat → Eqs
  | 0=>[]
  | t + 1=>(bif opaqB u t (look slT t) then [] else bif (look slT t).of (fun k=>Nat.blt k L && !Nat.beq k u) then [(.v ((look slS t).den β),.v ((look slT t).den (tEq1 β σ)))] else Eqs.no) ++ wkSl β u L σ slS slT t
def pieceE (P : Program) (m0 n : Nat) (s : Option (Stop P)) (u : Nat) (sl : List (Nat × SV)) (ob : List Ob) (σ : List Nat) (β : Env) : Eqs :=
  match s with
  | some (.head _ _ f)=>(bif wkB m0 u f.ob ob σ && Nat.beq f.ev.length 0 && sl.all (fun p=>Nat.blt p.1 n) then [] else Eqs.no) ++ (wkObs β f.ob σ ob 0 ++ (wkSl β u ob.length σ f.sl (mkC P n u sl ob []).sl n ++ eqsOf β f.cs))
  | _=>Eqs.no
def lastE (P : Program) (fn : Func) (m0 n : Nat) (res : SV) (outs : List (Nat × Ob)) (s : Option (Stop P)) (β : Env) : Eqs :=
  match s with
  | some (.ended f)=>fin1 P fn m0 n res outs f β
  | _=>Eqs.no
theorem Eqs.left {a b : Eqs} (h : Eqs.ok (a ++ b)) : Eqs.ok a:=fun p hp=>h p (List.mem_append.2 (.inl hp))
theorem Eqs.right {a b : Eqs} (h : Eqs.ok (a ++ b)) : Eqs.ok b:=fun p hp=>h p (List.mem_append.2 (.inr hp))
theorem bif_ok {b : Bool} (h : Eqs.ok (bif b then [] else Eqs.no)) : b = true:=by
  cases b
  · exact (Eqs.no_ok h).elim
  · rfl
theorem look_none : ∀ {l : List (Nat × SV)} {t : Nat},(∀ p ∈ l,p.1 ≠ t) → look l t = undefS
  | [],_,_=>rfl
  | (k,x) :: r,t,h=>by
    unfold look
    rw [show Nat.beq k t = false by rw [Bool.eq_false_iff,ne_eq,Nat.beq_eq]; exact h (k,x) (List.mem_cons_self ..),cond_false]
    exact look_none fun p hp=>h p (List.mem_cons_of_mem _ hp)
theorem wkObs_ok {β : Env} {obS : List Ob} {σ : List Nat} : ∀ {obT : List Ob} {i : Nat},Eqs.ok (wkObs β obS σ obT i) → ∀ (j : Nat) (x y : Ob),obT[j]? = some x → obS[σ.getD (i + j) 0]? = some y → Eqs.ok (wkOb β σ y x)
  | [],_,_,j,x,y,h,_=>by simp at h
  | z :: r,i,h,j,x,y,hx,hy=>by
    unfold wkObs at h
    cases j with
    | zero =>
      simp only [List.getElem?_cons_zero] at hx
      obtain rfl:=Option.some.inj hx
      have:=Eqs.left h
      rw [Nat.add_zero] at hy
      rw [hy] at this
      exact this
    | succ j=>exact wkObs_ok (Eqs.right h) j x y (by simpa using hx) (by rw [show i + 1 + j = i + (j + 1) by omega]; exact hy)
theorem opaqB_eq {u t : Nat} {x : SV} (h : opaqB u t x = true) : x = .one (.c (.b (.gh u t))):=by
  unfold opaqB at h
  split at h
  · rw [Bool.and_eq_true,Nat.beq_eq,Nat.beq_eq] at h
    obtain ⟨rfl,rfl⟩:=h
    rfl
  · cases h
theorem wkSl_ok {β : Env} {u L : Nat} {σ : List Nat} {slS slT : List (Nat × SV)} : ∀ {n : Nat},Eqs.ok (wkSl β u L σ slS slT n) → ∀ t,t < n → look slT t = .one (.c (.b (.gh u t))) ∨ ((look slT t).of (fun k=>Nat.blt k L && !Nat.beq k u) = true ∧ (look slS t).den β = (look slT t).den (tEq1 β σ))
  | 0,_,t,h=>by omega
  | n + 1,h,t,ht=>by
    unfold wkSl at h
    by_cases e : t = n
    · subst e
      have h:=Eqs.left h
      cases ho : opaqB u t (look slT t) with
      | true=>exact .inl (opaqB_eq ho)
      | false =>
        rw [ho,cond_false] at h
        cases hq : (look slT t).of (fun k=>Nat.blt k L && !Nat.beq k u) with
        | true =>
          rw [hq,cond_true] at h
          obtain ⟨e,_⟩:=Eqs.cons_ok h
          injection e with e
          exact .inr ⟨rfl,e⟩
        | false=>rw [hq,cond_false] at h; exact (Eqs.no_ok h).elim
    · exact wkSl_ok (Eqs.right h) t (by omega)
theorem layB_iff {x : Ob} : layB x = true ↔ ∃ p,x.layOf = some p:=by
  cases x <;> simp [layB,Ob.layOf]
theorem kind_lay {y x : Ob} (h : kindB y x = true) (hx : layB x = true) : layB y = true:=by
  cases y <;> cases x <;> first | rfl | (cases h; done) | (cases hx; done)
theorem kind_dead {y x : Ob} (h : kindB y x = true) (hx : x ≠ .dead) : y ≠ .dead:=by
  cases y <;> cases x <;> first | (intro e; cases e; done) | (cases h; done) | exact absurd rfl hx
theorem wk_hold {β β' : Env} {w : World} {g : Pl} {σ : List Nat} {q : Nat → Bool} {y x : Ob} (hk : kindB y x = true) (he : Eqs.ok (wkOb β σ y x)) (hq : x.of q = true) (hβ : ∀ k,q k = true → tEq1 β σ k = β' k) (h : y.holds β w g) : x.holds β' w g:=by
  have thc : ∀ (y : Ob) (t : Thing),Eqs.ok [(Tm.ob (y.plain (.th t)),Tm.ob (.th t))] → y.holds β w g → (Ob.th t).holds β' w g:=fun y t he h=>by
    obtain ⟨e,_⟩:=Eqs.cons_ok he
    injection e with e
    have:=Ob.plain_holds (x:=.th t) h
    rw [e] at this
    exact this
  cases x with
  | dead=>exact trivial
  | al r D=>cases y <;> (cases hk; done)
  | pl n=>cases y <;> (cases hk; done)
  | th t=>cases y <;> first | (cases hk; done) | exact thc _ t he h
  | box cs' t' =>
    cases y <;> first | (cases hk; done) | skip
    rename_i cs t
    obtain ⟨e1,he⟩:=Eqs.cons_ok he
    obtain ⟨e2,_⟩:=Eqs.cons_ok he
    injection e1 with e1
    injection e2 with e2
    injection e2 with e2
    have e2:=congrArg Array.toList e2
    dsimp only at e2
    subst e1
    have hc : cs'.map (Lf.den (tEq1 β σ)) = cs'.map (Lf.den β'):=all_congr hq (Lf.den_congr hβ)
    refine ⟨h.1,?_⟩
    rw [← hc,← e2]
    exact h.2
  | row cs' t' n' sz' =>
    cases y <;> first | (cases hk; done) | skip
    rename_i cs t n sz
    obtain ⟨e1,he⟩:=Eqs.cons_ok he
    obtain ⟨e3,he⟩:=Eqs.cons_ok he
    obtain ⟨e4,he⟩:=Eqs.cons_ok he
    obtain ⟨e2,_⟩:=Eqs.cons_ok he
    injection e1 with e1
    injection e3 with e3
    injection e4 with e4
    injection e2 with e2
    injection e2 with e2
    have e2:=congrArg Array.toList e2
    dsimp only at e2
    subst e1 e3 e4
    have hc : cs'.map (Lf.den (tEq1 β σ)) = cs'.map (Lf.den β'):=all_congr hq (Lf.den_congr hβ)
    have hl : cs'.length = cs.length:=by
      have:=congrArg List.length e2
      rw [List.length_map,List.length_map] at this
      exact this.symm
    obtain ⟨h0,cur,h1,h2,h3,h4,h5,h6⟩:=h
    refine ⟨h0,cur,h1,by rw [hl]; exact h2,h3,h4,h5,?_⟩
    rw [← hc,← e2]
    exact h6
theorem wk_sync {P : Program} {m0 n u : Nat} {N : Nat} {w0 : World} {f : Cf P} {sl : List (Nat × SV)} {ob : List Ob} {ev : List (Ev P)} {σ : List Nat} {β : Env} {a : Act} {w : World}
    (hB : wkB m0 u f.ob ob σ = true) (hn : sl.all (fun p=>Nat.blt p.1 n) = true) (hO : Eqs.ok (wkObs β f.ob σ ob 0)) (hS : Eqs.ok (wkSl β u ob.length σ f.sl (mkC P n u sl ob ev).sl n)) (h : Sync P m0 n (bd0 N m0) w0 f β a w) :
    ∃ β' : Env,(∀ k,k < m0 → β' k = β k) ∧ Sync P m0 n (bd0 N m0) w0 (mkC P n u sl ob ev) β' a w:=by
  unfold wkB at hB
  rw [Bool.and_eq_true,Bool.and_eq_true,Bool.and_eq_true,Bool.and_eq_true,Nat.beq_eq,Nat.ble_eq,Nat.blt_eq] at hB
  obtain ⟨⟨⟨⟨hlen,hmu⟩,hul⟩,hid⟩,hall⟩:=hB
  have hσ : ∀ i,i < m0 → σ.getD i 0 = i:=fun i hi=>Nat.eq_of_beq_eq_true (List.all_eq_true.1 hid i (List.mem_range.2 hi))
  obtain ⟨β',hβ⟩ : ∃ β' : Env,β' = fun j=>if j = u then ⟨0,fun _=>none,fun _=>0,fun _=>False,fun t=>a.tmps.getD t undef⟩ else β (σ.getD j 0):=⟨_,rfl⟩
  have hβu : β' u = ⟨0,fun _=>none,fun _=>0,fun _=>False,fun t=>a.tmps.getD t undef⟩:=by rw [hβ]; exact if_pos rfl
  have hβo : ∀ j,j ≠ u → β' j = β (σ.getD j 0):=fun j hj=>by rw [hβ]; exact if_neg hj
  have hβm : ∀ k,k < m0 → β' k = β k:=fun k hk=>by rw [hβo k (by omega),hσ k hk]
  have hq : ∀ k,(Nat.blt k ob.length && !Nat.beq k u) = true → tEq1 β σ k = β' k:=fun k hk=>by
    rw [Bool.and_eq_true,Bool.not_eq_true',Nat.blt_eq] at hk
    rw [hβo k (fun e=>by rw [e,Nat.beq_refl] at hk; cases hk.2)]
    rfl
  have hmono : ∀ k,(Nat.blt k ob.length && !Nat.beq k u) = true → Nat.blt k ob.length = true:=fun k hk=>by rw [Bool.and_eq_true] at hk; exact hk.1
  have hsrc : ∀ (j : Nat) (x : Ob),ob[j]? = some x → (j = u → x = .dead) ∧ (j ≠ u → ∃ y,f.ob[σ.getD j 0]? = some y ∧ kindB y x = true ∧ x.of (fun k=>Nat.blt k ob.length && !Nat.beq k u) = true) ∧ (layB x = true → (m0 ≤ j → m0 ≤ σ.getD j 0) ∧ ∀ (i : Nat) (y : Ob),ob[i]? = some y → y ≠ .dead → i ≠ j → i ≠ u → σ.getD i 0 ≠ σ.getD j 0):=by
    intro j x hx
    have hj : j < ob.length:=(List.getElem?_eq_some_iff.1 hx).1
    have hc:=List.all_eq_true.1 hall j (List.mem_range.2 hj)
    rw [hx] at hc
    dsimp only at hc
    rw [Bool.and_eq_true] at hc
    obtain ⟨hc1,hc2⟩:=hc
    refine ⟨fun e=>?_,fun e=>?_,fun hl=>?_⟩
    · rw [e,Nat.beq_refl,cond_true] at hc1
      cases x <;> first | rfl | (cases hc1; done)
    · rw [show Nat.beq j u = false by rw [Bool.eq_false_iff,ne_eq,Nat.beq_eq]; exact e,cond_false] at hc1
      split at hc1
      · cases hc1
      · rename_i y hy
        rw [Bool.and_eq_true] at hc1
        exact ⟨y,hy,hc1.1,hc1.2⟩
    · rw [hl,cond_true,Bool.and_eq_true,Bool.or_eq_true] at hc2
      refine ⟨fun hm=>?_,fun i y hy hd hij hiu e=>?_⟩
      · rcases hc2.1 with h1 | h1
        · rw [Bool.not_eq_true',Bool.eq_false_iff,ne_eq,Nat.ble_eq] at h1
          exact absurd hm h1
        · exact Nat.le_of_ble_eq_true h1
      · have hi : i < ob.length:=(List.getElem?_eq_some_iff.1 hy).1
        have h1:=List.all_eq_true.1 hc2.2 i (List.mem_range.2 hi)
        rw [hy,Bool.or_eq_true,Bool.or_eq_true,Bool.or_eq_true,Nat.beq_eq,Nat.beq_eq,e,Nat.beq_refl] at h1
        rcases h1 with h1 | h1 | h1 | h1
        · exact hij h1
        · exact hiu h1
        · refine hd ?_
          cases y <;> first | rfl | (cases h1; done)
        · cases h1
  have hex : ∀ {k : Nat} {y : Ob},f.ob[k]? = some y → f.q k = true:=fun {k y} hy=>(h.q k).2 (List.getElem?_eq_some_iff.1 hy).1
  have hob : ∀ {k : Nat},Nat.blt k ob.length = true → ∃ x,ob[k]? = some x:=fun {k} hk=>⟨_,List.getElem?_eq_getElem (by rw [Nat.blt_eq] at hk; exact hk)⟩
  have hfree : ∀ {k : Nat} {x : Ob},ob[k]? = some x → Free (fun k=>Nat.blt k ob.length) (fun k=>ob[k]?) k → layB x = true ∧ k ≠ u:=fun {k x} hx hf=>by
    rcases hf with ⟨x',e,p,hp⟩ | ⟨⟨m,e⟩,_⟩
    · dsimp only at e
      rw [hx] at e
      obtain rfl:=Option.some.inj e
      refine ⟨layB_iff.2 ⟨p,hp⟩,fun e=>?_⟩
      rw [(hsrc k x hx).1 e] at hp
      cases hp
    · dsimp only at e
      rw [hx] at e
      obtain rfl:=Option.some.inj e
      exfalso
      by_cases ek : k = u
      · have:=(hsrc k _ hx).1 ek
        cases this
      · obtain ⟨y,_,hk,_⟩:=(hsrc k _ hx).2.1 ek
        cases y <;> (cases hk; done)
  have hlayS : ∀ {k : Nat} {x : Ob},ob[k]? = some x → layB x = true → k ≠ u → f.q (σ.getD k 0) = true ∧ Free f.q (fun k=>f.ob[k]?) (σ.getD k 0):=fun {k x} hx hl hku=>by
    obtain ⟨y,hy,hk,_⟩:=(hsrc k x hx).2.1 hku
    obtain ⟨p,hp⟩:=layB_iff.1 (kind_lay hk hl)
    exact ⟨hex hy,Free.lay hy hp⟩
  refine ⟨β',hβm,⟨⟨h.good.bel,h.good.le,?_,?_,?_,?_,?_,?_,?_,?_,?_⟩,fun k=>by dsimp only [mkC]; rw [Nat.blt_eq],⟨h.sl.1,fun t=>?_⟩,fun t=>?_,?_,h.defers,?_⟩⟩
  ·
    intro k o hk hko
    dsimp only [mkC] at hk hko ⊢
    by_cases e : k = u
    · rw [(hsrc k o hko).1 e]
      exact ⟨trivial,rfl⟩
    · obtain ⟨y,hy,hkd,hof⟩:=(hsrc k o hko).2.1 e
      have hh:=(h.good.hold _ y (hex hy) hy).1
      refine ⟨?_,Ob.of_mono hmono _ hof⟩
      rw [hβo k e]
      refine wk_hold hkd (wkObs_ok hO k o y hko ?_) hof hq hh
      rw [Nat.zero_add]
      exact hy
  ·
    intro k hk c hc
    dsimp only [mkC] at hk
    by_cases e : k = u
    · rw [e,hβu] at hc; exact hc.elim
    · rw [hβo k e] at hc
      obtain ⟨x,hx⟩:=hob hk
      obtain ⟨y,hy,_⟩:=(hsrc k x hx).2.1 e
      exact h.good.lt _ (hex hy) c hc
  ·
    intro k j hk hj hne hm hf hd
    dsimp only [mkC] at hk hj hf hd
    obtain ⟨x,hx⟩:=hob hk
    obtain ⟨z,hz⟩:=hob hj
    obtain ⟨hl,hku⟩:=hfree hx hf
    by_cases e : j = u
    · rw [e,hβu]; exact fun hc=>hc.elim
    · obtain ⟨hs1,hs2⟩:=hlayS hx hl hku
      obtain ⟨hm2,hdis⟩:=(hsrc k x hx).2.2 hl
      obtain ⟨y,hy,hkd,_⟩:=(hsrc j z hz).2.1 e
      have hzd : z ≠ .dead:=fun e=>hd (by rw [hz,e])
      rw [hβo k hku,hβo j e]
      exact h.good.ne _ _ hs1 (hex hy) (hdis j z hz hzd hne e) (hm2 hm) hs2 (fun e=>kind_dead hkd hzd (Option.some.inj (hy.symm.trans e)))
  ·
    intro k x hk hm hx hmi
    dsimp only [mkC] at hk hx
    obtain ⟨hl,hku⟩ : layB x = true ∧ k ≠ u:=by
      refine ⟨?_,fun e=>by rw [(hsrc k x hx).1 e] at hmi; cases hmi⟩
      cases x <;> first | (cases hmi; done) | exact layB_iff.2 ⟨_,rfl⟩ | skip
      exfalso
      by_cases ek : k = u
      · have:=(hsrc k _ hx).1 ek
        cases this
      · obtain ⟨y,_,hk,_⟩:=(hsrc k _ hx).2.1 ek
        cases y <;> (cases hk; done)
    obtain ⟨hs1,hs2⟩:=hlayS hx hl hku
    rw [hβo k hku]
    exact h.good.low _ hs1 (((hsrc k x hx).2.2 hl).1 hm) hs2
  ·
    intro k hk hm c hc
    dsimp only [mkC] at hk
    by_cases e : k = u
    · rw [e,hβu] at hc; exact hc.elim
    · rw [hβo k e] at hc
      obtain ⟨x,hx⟩:=hob hk
      obtain ⟨y,hy,_⟩:=(hsrc k x hx).2.1 e
      by_cases hs : m0 ≤ σ.getD k 0
      · exact (h.good.fr _ (hex hy) hs c hc).imp id fun ⟨i,i1,i2⟩=>⟨i,i1,by rw [hβm i i1]; exact i2⟩
      · exact .inr ⟨σ.getD k 0,by omega,by rw [hβm _ (by omega)]; exact hc⟩
  · intro i hi
    dsimp only [mkC]
    rw [Nat.blt_eq]
    omega
  · intro k r D hk ho
    dsimp only [mkC] at ho
    exfalso
    by_cases e : k = u
    · have:=(hsrc k _ ho).1 e
      cases this
    · obtain ⟨y,_,hkd,_⟩:=(hsrc k _ ho).2.1 e
      cases y <;> (cases hkd; done)
  · intro k r D hk ho
    dsimp only [mkC] at ho
    exfalso
    by_cases e : k = u
    · have:=(hsrc k _ ho).1 e
      cases this
    · obtain ⟨y,_,hkd,_⟩:=(hsrc k _ ho).2.1 e
      cases y <;> (cases hkd; done)
  · intro k i hk hi hlt hm hd hp
    dsimp only [mkC] at hp
    obtain ⟨M,hp⟩:=hp
    exfalso
    by_cases e : i = u
    · have:=(hsrc i _ hp).1 e
      cases this
    · obtain ⟨y,_,hkd,_⟩:=(hsrc i _ hp).2.1 e
      cases y <;> (cases hkd; done)
  ·
    by_cases ht : t < n
    · rcases wkSl_ok hS t ht with e | ⟨e1,e2⟩
      · rw [e]
        show _ = (β' u).u t
        rw [hβu]
      · rw [h.sl.2 t,e2]
        exact SV.den_congr hq _ e1
    · have hl : look (mkC P n u sl ob ev).sl t = undefS:=look_none fun p hp=>by
        rcases List.mem_append.1 hp with hp | hp
        · have:=List.all_eq_true.1 hn p hp
          rw [Nat.blt_eq] at this
          omega
        · obtain ⟨t',ht',rfl⟩:=List.mem_map.1 hp
          have:=List.mem_range.1 ht'
          dsimp only
          omega
      rw [hl]
      show a.tmps.getD t undef = undef
      rw [Array.getD_eq_getD_getElem?,Array.getElem?_eq_none (by rw [h.sl.1]; omega)]
      rfl
  · by_cases ht : t < n
    · rcases wkSl_ok hS t ht with e | ⟨e1,e2⟩
      · rw [e]
        show Nat.blt u ob.length = true
        rw [Nat.blt_eq]; exact hul
      · exact SV.of_mono hmono _ e1
    · have hl : look (mkC P n u sl ob ev).sl t = undefS:=look_none fun p hp=>by
        rcases List.mem_append.1 hp with hp | hp
        · have:=List.all_eq_true.1 hn p hp
          rw [Nat.blt_eq] at this
          omega
        · obtain ⟨t',ht',rfl⟩:=List.mem_map.1 hp
          have:=List.mem_range.1 ht'
          dsimp only
          omega
      rw [hl]; rfl
  · show m0 ≤ ob.length ∧ m0 ≤ ob.length
    omega
  · intro k j i D D' h1 h2
    exfalso
    by_cases e : k = u
    · have:=(hsrc k _ h1).1 e
      cases this
    · obtain ⟨y,_,hkd,_⟩:=(hsrc k _ h1).2.1 e
      cases y <;> (cases hkd; done)
def HdOk (P : Program) (m0 n : Nat) (N : Nat) (w0 : World) (β0 : Env) (Q : Exit → Act → World → Prop) (C : Cf P) (p : Code × List Kf) : Prop :=
  ∀ (β : Env) (a : Act) (w : World),(∀ k,k < m0 → β k = β0 k) → Sync P m0 n (bd0 N m0) w0 C β a w → Rounds P p.1 (post P Q p.2) a w
theorem pieceE_parts {P : Program} {m0 n : Nat} {c : Code} {ks : List Kf} {f : Cf P} {u : Nat} {sl : List (Nat × SV)} {ob : List Ob} {σ : List Nat} (ev : List (Ev P)) (he : ∀ β,Eqs.ok (pieceE P m0 n (some (.head c ks f)) u sl ob σ β)) :
    f.good ∧ ∀ {N : Nat} {w0 : World} {β : Env} {a : Act} {w : World},Sync P m0 n (bd0 N m0) w0 f β a w → ∃ β' : Env,(∀ k,k < m0 → β' k = β k) ∧ Sync P m0 n (bd0 N m0) w0 (mkC P n u sl ob ev) β' a w:=by
  refine ⟨fun β x hx=>eqsOf_ok (Eqs.right (Eqs.right (Eqs.right (he β)))) x hx,fun {N w0 β a w} hs=>?_⟩
  have h:=he β
  have h1:=bif_ok (Eqs.left h)
  rw [Bool.and_eq_true,Bool.and_eq_true] at h1
  exact wk_sync h1.1.1 h1.2 (Eqs.left (Eqs.right h)) (Eqs.left (Eqs.right (Eqs.right h))) hs
theorem piece_ok {P : Program} {m0 n : Nat} {N : Nat} {w0 : World} {β0 : Env} {Q : Exit → Act → World → Prop} {Ns : List (Nat × Nat)} {m : Nat} {C : Cf P} {p p' : Code × List Kf} {u : Nat} {sl : List (Nat × SV)} {ob : List Ob} (ev : List (Ev P)) (σ : List Nat) (hm : P.follows .mixedOrders = true)
    (hp : (runP P m0 n Ns m (some p.1) (.lp p.1 :: p.2) C).bind Stop.pos = some p') (he : ∀ β,Eqs.ok (pieceE P m0 n (runP P m0 n Ns m (some p.1) (.lp p.1 :: p.2) C) u sl ob σ β))
    (hH : HdOk P m0 n N w0 β0 Q (mkC P n u sl ob ev) p') : HdOk P m0 n N w0 β0 Q C p:=by
  intro β a w hβ hs
  cases hr : runP P m0 n Ns m (some p.1) (.lp p.1 :: p.2) C with
  | none=>rw [hr] at hp; cases hp
  | some s =>
    rw [hr] at hp he
    cases s with
    | ended f=>cases hp
    | head c ks f =>
      obtain rfl : (c,ks) = p':=Option.some.inj hp
      obtain ⟨hg,hw⟩:=pieceE_parts ev he
      obtain ⟨_,_,r3⟩:=runP_ok hm _ _ _ _ _ hr ⟨hs.q,hs.uq⟩
      refine rounds_one (r3 hg hs Q fun β' a' w' e s'=>?_)
      obtain ⟨β'',e2,s2⟩:=hw s'
      exact hH β'' a' w' (fun k hk=>(e2 k hk).trans ((e k hk).trans (hβ k hk))) s2
def Said (P : Program) (fn : Func) (m0 : Nat) (res : SV) (outs : List (Nat × Ob)) (β : Env) (w : World) (e : Ending) (w' : World) : Prop :=
  ∃ (β' : Env) (q : Nat → Bool) (obj : Nat → Option Ob),(∀ k,k < m0 → β' k = β k) ∧ e = .returned (res.den β') ∧ res.of q = true ∧ (∀ p ∈ outs,∀ c,(β' p.1).F c → w.heap.size ≤ c ∨ ∃ i,i < m0 ∧ (β i).F c) ∧ holdsAll β' w' outs ∧ Fin w w'
theorem fin1_parts {P : Program} {fn : Func} {m0 n : Nat} {res : SV} {outs : List (Nat × Ob)} {f : Cf P} (h : ∀ β,Eqs.ok (fin1 P fn m0 n res outs f β)) : f.good ∧ ∀ {β0 : Env} {w : World} {β' : Env} {a' : Act} {w' : World},(∀ k,k < m0 → β' k = β0 k) → Sync P m0 n (bd0 w.heap.size m0) w f β' a' w' →
    bodyPost P fn (Said P fn m0 res outs β0 w) .normal a' w' ∧ bodyPost P fn (Said P fn m0 res outs β0 w) .ret a' w':=by
  have fin : ∃ r : R1 Value,run1 P m0 false (results fn (tmpsS idE f.sl n)) f.q f.ob [] = some r ∧ res.of f.q = true ∧ r.ob.length = f.ob.length ∧
      ∀ β,Eqs.ok (chk P β (results fn (tmpsS β f.sl n)) r.tr.reverse (fun u=>[(.v u,.v (res.den β))]) ++ (needEqs f.q f.ob outs ++ eqsOf β f.cs)):=by
    cases hx : run1 P m0 false (results fn (tmpsS idE f.sl n)) f.q f.ob [] with
    | none=>have:=h idE; unfold fin1 at this; rw [hx] at this; exact (Eqs.no_ok this).elim
    | some r =>
      obtain ⟨ra,rq,rob,rtr⟩:=r
      cases hc : (res.of f.q && Nat.beq rob.length f.ob.length && Nat.beq f.ev.length 0) with
      | false=>have:=h idE; unfold fin1 at this; rw [hx] at this; dsimp only at this; rw [hc] at this; exact (Eqs.no_ok this).elim
      | true =>
        have h3:=hc
        simp only [Bool.and_eq_true,Nat.beq_eq] at hc
        refine ⟨_,rfl,hc.1.1,hc.1.2,fun β=>?_⟩
        have:=h β
        unfold fin1 at this
        rw [hx] at this
        dsimp only at this
        rw [h3] at this
        exact this
  obtain ⟨r,f1,f2,f3,f4⟩:=fin
  refine ⟨fun β x hx=>eqsOf_ok (fun p hp=>f4 β p (List.mem_append.2 (.inr (List.mem_append.2 (.inr hp))))) x hx,?_⟩
  intro β0 w β' a' w' e s
  obtain ⟨h5,_,_,tr,h8,h9⟩:=run1_ok _ _ _ _ _ f1 (fun k hk=>(s.q k).1 hk)
  obtain ⟨k1,obj',k2,k3,k4⟩:=h9 _ _ _ _ _ _ s.good (fun k hk=>⟨hk,rfl⟩) (fun k a b=>by omega) s.m0.1
  have h6:=f4 β'
  rw [h8,List.append_nil,List.reverse_reverse] at h6
  have h7 : Eqs.ok (chk P β' (results fn (tmpsS β' f.sl n)) tr (fun u=>[(.v u,.v (res.den β'))])):=fun p hp=>h6 p (List.mem_append.2 (.inl hp))
  obtain ⟨v,hv,hv2⟩:=chk_run _ _ _ h7 k1
  obtain ⟨e1,_⟩:=Eqs.cons_ok hv2
  injection e1 with e1
  subst e1
  rw [f3,rangeQ_self] at k4
  have hend : trEnd β' w' tr = w':=by
    obtain ⟨tr2,x1,x2⟩:=run1_still _ _ _ _ _ f1 (fun k hk=>(s.q k).1 hk) f3
    rw [h8,List.append_nil,List.append_nil] at x1
    rw [List.reverse_inj.1 x1]
    exact x2 β' w'
  rw [hend] at hv k4
  rw [← tmps_eq s.sl] at hv
  have hout : ∀ p : Nat × Ob,f.q p.1 = true → ∀ c,(β' p.1).F c → w.heap.size ≤ c ∨ ∃ i,i < m0 ∧ (β0 i).F c:=fun p hp c hc=>by
    by_cases h0 : m0 ≤ p.1
    · exact (s.good.fr p.1 hp h0 c hc).imp (fun a=>a.elim id False.elim) fun ⟨i,i1,i2⟩=>⟨i,i1,by rw [← e i i1]; exact i2⟩
    · exact .inr ⟨p.1,by omega,by rw [← e p.1 (by omega)]; exact hc⟩
  have hneed : Eqs.ok (needEqs f.q f.ob outs):=fun p hp=>f4 β' p (List.mem_append.2 (.inr (List.mem_append.2 (.inl hp))))
  have hres : bodyPost P fn (Said P fn m0 res outs β0 w) .normal a' w':=⟨s.defers,_,hv,β',f.q,obj',e,rfl,f2,fun p hp c hc=>hout p (needs_q _ hneed p hp) c hc,needs_hold s.good (fun k hk=>⟨hk,rfl⟩) _ hneed,⟨k4.bel.below⟩⟩
  exact ⟨hres,hres⟩
theorem last_ok {P : Program} {fn : Func} {m0 n : Nat} {w : World} {β0 : Env} {res : SV} {outs : List (Nat × Ob)} {Ns : List (Nat × Nat)} {m : Nat} {C : Cf P} {p : Code × List Kf} (hm : P.follows .mixedOrders = true)
    (he : ∀ β,Eqs.ok (lastE P fn m0 n res outs (runP P m0 n Ns m (some p.1) (.lp p.1 :: p.2) C) β)) : HdOk P m0 n w.heap.size w β0 (bodyPost P fn (Said P fn m0 res outs β0 w)) C p:=by
  intro β a w1 hβ hs
  cases hr : runP P m0 n Ns m (some p.1) (.lp p.1 :: p.2) C with
  | none=>have:=he idE; rw [hr] at this; exact (Eqs.no_ok this).elim
  | some s =>
    rw [hr] at he
    cases s with
    | head c ks f=>exact (Eqs.no_ok (he idE)).elim
    | ended f =>
      obtain ⟨hg,hw⟩:=fin1_parts he
      obtain ⟨_,_,r3⟩:=runP_ok hm _ _ _ _ _ hr ⟨hs.q,hs.uq⟩
      exact rounds_one (r3 hg hs _ fun β' a' w' e s'=>hw (fun k hk=>(e k hk).trans (hβ k hk)) s')
def startP (P : Program) (fn : Func) (args : List SV) (obs : List Ob) (evs : List (Ev P)) (Ns : List (Nat × Nat)) (m : Nat) : Option (Stop P):=match fn.body with
  | some c=>runP P obs.length (sizeS fn args) Ns m (some c) [] ⟨startS args 0,fun k=>Nat.blt k obs.length,obs,evs,[]⟩
  | none=>none
theorem sx_cut {P : Program} {f : FuncId} {fn : Func} (args : List SV) (obs : List Ob) (evs ev : List (Ev P)) (Ns : List (Nat × Nat)) (m : Nat) (res : SV) (outs : List (Nat × Ob)) (hf : P.funcs[f]? = some fn) (hm : P.follows .mixedOrders = true) {u : Nat} {sl : List (Nat × SV)} {ob : List Ob} {σ : List Nat} {p' : Code × List Kf}
    (hp : (startP P fn args obs evs Ns m).bind Stop.pos = some p') (he : ∀ β,Eqs.ok (pieceE P obs.length (sizeS fn args) (startP P fn args obs evs Ns m) u sl ob σ β))
    (hargs : args.all (SV.of fun k=>Nat.blt k obs.length) = true) (hobs : obs.all (fun x=>x.of (fun k=>Nat.blt k obs.length) && x.own) = true) (β : Env) (w : World) (hh : ∀ (k : Nat) (o : Ob),obs[k]? = some o → o.holds β w (β k))
    (hH : HdOk P obs.length (sizeS fn args) w.heap.size w β (bodyPost P fn (Said P fn obs.length res outs β w)) (mkC P (sizeS fn args) u sl ob ev) p') :
    Calls P f (args.map (SV.den β)).toArray w (Said P fn obs.length res outs β w):=by
  have hnal : ∀ (k r : Nat) (D : Thing),obs[k]? ≠ some (.al r D):=fun k r D ho=>by
    have:=List.all_eq_true.1 hobs _ (List.mem_of_getElem? ho)
    simp [Ob.own] at this
  have huq : UniqAl obs:=fun k j i D _ h1 _=>absurd h1 (hnal k i D)
  have hlt : ∀ k,k < obs.length → ∀ c,(β k).F c → c < w.heap.size:=fun k hk c hc=>by
    have h:=hh k _ (List.getElem?_eq_getElem hk)
    cases hx : obs[k] with
    | box cs t=>rw [hx] at h; rw [(h.1.1 c).1 hc]; exact heap_lt h.2
    | th D=>rw [hx] at h; exact D.st.lt _ _ h c hc
    | al r D=>rw [hx] at h; exact D.st.lt _ _ h c hc
    | pl n=>rw [hx] at h; rw [(h.1.1 c).1 hc]; exact h.2.lt
    | row cs t n sz=>rw [hx] at h; rw [(h.1.1 c).1 hc]; exact heap_lt h.2.choose_spec.1
    | dead =>
      have:=List.all_eq_true.1 hobs _ (List.mem_of_getElem? (List.getElem?_eq_getElem hk))
      rw [hx] at this
      simp [Ob.own] at this
  cases hb : fn.body with
  | none=>unfold startP at hp; rw [hb] at hp; cases hp
  | some c =>
    have hst : startP P fn args obs evs Ns m = runP P obs.length (sizeS fn args) Ns m (some c) [] ⟨startS args 0,fun k=>Nat.blt k obs.length,obs,evs,[]⟩:=by unfold startP; rw [hb]
    rw [hst] at hp he
    cases hr : runP P obs.length (sizeS fn args) Ns m (some c) [] ⟨startS args 0,fun k=>Nat.blt k obs.length,obs,evs,[]⟩ with
    | none=>rw [hr] at hp; cases hp
    | some s =>
      rw [hr] at hp he
      cases s with
      | ended f=>cases hp
      | head c1 ks1 f1 =>
        obtain rfl : (c1,ks1) = p':=Option.some.inj hp
        obtain ⟨hg,hw⟩:=pieceE_parts ev he
        obtain ⟨_,_,r3⟩:=runP_ok hm _ _ _ _ _ hr ⟨fun k=>by dsimp only; rw [Nat.blt_eq],huq⟩
        refine calls_of_wp hf hb (r3 hg (B0:=bd0 w.heap.size obs.length) (w0:=w) (β:=β) ⟨⟨Keep.refl _ _,Nat.le_refl _,fun k o hk ho=>⟨hh k o ho,(Bool.and_eq_true _ _ ▸ List.all_eq_true.1 hobs o (List.mem_of_getElem? ho)).1⟩,fun k hk=>hlt k (by simpa [Nat.blt_eq] using hk),fun k j hk _ _ hm=>?_,fun k _ hk hm=>?_,fun k hk hm=>?_,fun i hi=>by rw [Nat.blt_eq]; exact hi,fun k r D _ ho=>?_,fun k r D _ ho=>absurd ho (hnal k r D),fun k i _ hi _ hm=>by rw [Nat.blt_eq] at hi; omega⟩,fun k=>by dsimp only; rw [Nat.blt_eq],⟨?_,fun t=>?_⟩,fun t=>?_,⟨Nat.le_refl _,Nat.le_refl _⟩,rfl,huq⟩ _ fun β' a' w' e s=>?_)
        · rw [Nat.blt_eq] at hk; omega
        · rw [Nat.blt_eq] at hk; omega
        · rw [Nat.blt_eq] at hk; omega
        · exact absurd ho (hnal k r D)
        · simp [sizeS]
        · rw [look_start,if_pos (Nat.zero_le _),Nat.sub_zero]
          simp only [Array.getD_eq_getD_getElem?,Array.getElem?_append,List.size_toArray,List.length_map,List.getElem?_toArray,List.getElem?_map]
          split
          · rename_i hlt2
            rw [List.getElem?_eq_getElem hlt2]
            rfl
          · rename_i hge
            rw [List.getElem?_eq_none (by omega)]
            simp [Array.getElem?_replicate]
            split <;> rfl
        · dsimp only
          rw [look_start,if_pos (Nat.zero_le _),Nat.sub_zero]
          cases hx : args[t]? with
          | none=>rfl
          | some x=>exact List.all_eq_true.1 hargs x (List.mem_of_getElem? hx)
        · obtain ⟨β'',e2,s2⟩:=hw s
          exact hH β'' a' w' (fun k hk=>(e2 k hk).trans (e k hk)) s2
end Go.Proofs.YtimfgjcidigbiaaGreat.Y
end
section
namespace Go.Proofs.YtimfgjcidigbiaaGreat.Y
open Go Go.RowKit
set_option maxRecDepth 100000
noncomputable def eRNegP {x : Rat} (i j n : Nat) : Ev Tryz.prog:=.refill 218 Tryz.call218 (fun β=>#[.pointer (some ⟨(β i).b,0,none⟩),.pointer (some ⟨(β i).b,0,none⟩)]) [(j,(ratT x).ob)] i j 4 n (ratT (-x))
  (fun β w h hji ho hs=>by
    obtain ⟨a,ha,ka⟩:=needP (x:=x) (k:=j) h (by simp)
    have e:=one_at ho (hji ▸ ha)
    subst e
    exact fillP ho (rNeg_any hs ka))
noncomputable def eRNegZ {x : Rat} (i j n : Nat) : Ev Tryz.prog:=.refill 218 Tryz.call218 (fun β=>#[.pointer ((β j).v 0),.pointer ((β j).v 0)]) [(j,(ratT x).ob)] i j 4 n (ratT (-x))
  (fun β w h hji ho hs=>by
    obtain ⟨a,ha,ka⟩:=needP (x:=x) (k:=j) h (by simp)
    have e:=one_at ho (hji ▸ ha)
    subst e
    simp only [ha.1]
    exact fillP ho (rNeg_any hs ka))
noncomputable def negN (x : Rat) : Ev Tryz.prog:=.dyn (fun o _ _=>isCallB o) fun _ xs ob=>lit ob.length fun n=>match xs.getD 0 undefS with
  | .one (.c (.b (.p i _)))=>lit i fun i=>lit ((findA i ob 0).getD 0) fun j=>eRNegP (x:=x) i j n
  | .one (.c (.b (.z j _)))=>lit j fun j=>lit (alOf ob j) fun i=>eRNegZ (x:=x) i j n
  | _=>.eqv 0 undef undef rfl
def colQ (f : RQ) : Nat → Rat
  | 0=>f.a
  | 1=>f.b.re
  | 2=>f.b.im
  | _=>f.c
theorem col_sz {k : Nat} {f : RQ} (h : RSz k f) : ∀ n,Sz k (colQ f n)
  | 0=>h.a
  | 1=>h.b.1
  | 2=>h.b.2
  | _ + 3=>h.c
def mt (f g h : RQ) (i a b : Nat) : Rat:=colQ f i * (colQ g a * colQ h b - colQ g b * colQ h a)
def mn (z : Rat) (f g h : RQ) (a b c : Nat) : Rat:=z + mt f g h a b c + mt f g h b c a + mt f g h c a b
abbrev colT (f : RQ) : List Thing:=[ratT (colQ f 0),ratT (colQ f 1),ratT (colQ f 2),ratT (colQ f 3)]
def mnQ (z : Rat) (f g h : RQ) : RQ:=⟨mn z f g h 1 2 3,⟨-(mn z f g h 0 2 3),mn z f g h 0 1 3⟩,-(mn z f g h 0 1 2)⟩
abbrev KMT : Nat:=5501
theorem said_spec {P : Program} {fn : Func} {obs : List Thing} {res : SV} {news : List Thing} {idx : List Nat} {β : Env} {w : World} (h2 : (res.of fun k=>Nat.blt k (obs.length + news.length)) = true) (h3 : idx.length = news.length) {e : Ending} {w' : World}
    (h : Said P fn obs.length (res.ren (backS obs.length idx)) (idx.zip (news.map Thing.ob)) β w e w') : ∃ xs : List Pl,freshS β w obs.length xs ∧ e = .returned (res.den (extE β obs.length xs)) ∧ newHold w' news xs ∧ Below w.heap.size w w':=by
  obtain ⟨β',q,obj,e1,rfl,e2,e4,e5,g⟩:=h
  have hz : (idx.zip (news.map Thing.ob)).map (fun p=>β' p.1) = idx.map β':=by
    rw [show (fun p : Nat × Ob=>β' p.1) = β' ∘ Prod.fst from rfl,← List.map_map,List.map_fst_zip (by rw [List.length_map]; omega)]
  refine ⟨idx.map β',fun x hx=>?_,?_,newHold_of h3 e5,g.bel⟩
  · rw [← hz] at hx
    obtain ⟨p,hp,rfl⟩:=List.mem_map.1 hx
    exact e4 p hp
  · rw [SV.den_ren]
    congr 1
    refine SV.den_congr (fun k hk=>?_) _ h2
    rw [Nat.blt_eq] at hk
    unfold backS
    rw [lit_eq]
    by_cases hk2 : k < obs.length
    · rw [show Nat.blt k obs.length = true by rw [Nat.blt_eq]; exact hk2,cond_true,extE_out (by omega)]
      exact e1 k hk2
    · rw [show Nat.blt k obs.length = false by rw [Bool.eq_false_iff,ne_eq,Nat.blt_eq]; exact hk2,cond_false]
      have h5 : k - obs.length < idx.length:=by omega
      have:=extE_in (β:=β) (n:=obs.length) (xs:=idx.map β') (i:=k - obs.length) (x:=β' idx[k - obs.length]) (by simp [h5])
      rw [show obs.length + (k - obs.length) = k by omega] at this
      rw [this,List.getD_eq_getElem?_getD,List.getElem?_eq_getElem h5,Option.getD_some]
section
variable {f g h : RQ} (hf : RSz KH f) (hg : RSz KH g) (hh : RSz KH h)
include hf hg hh in
theorem mt_sz (i a b : Nat) : Sz KMT (mt f g h i a b):=((col_sz hf i).mul (((col_sz hg a).mul (col_sz hh b)).sub ((col_sz hg b).mul (col_sz hh a)))).mono (by decide)
include hf hg hh in
theorem mn_szs (a b c : Nat) : Sz (1 + KMT + 1) (0 + mt f g h a b c) ∧ Sz (1 + KMT + 1 + KMT + 1) (0 + mt f g h a b c + mt f g h b c a) ∧ Sz (1 + KMT + 1 + KMT + 1 + KMT + 1) (mn 0 f g h a b c):=by
  have a1:=sz_zero.add (mt_sz hf hg hh a b c)
  have a2:=a1.add (mt_sz hf hg hh b c a)
  exact ⟨a1,a2,a2.add (mt_sz hf hg hh c a b)⟩
include hf hg hh in
theorem mnQ_sz : RSz 17000 (mnQ 0 f g h) :=
  ⟨(mn_szs hf hg hh 1 2 3).2.2.mono (by decide),⟨(mn_szs hf hg hh 0 2 3).2.2.neg.mono (by decide),(mn_szs hf hg hh 0 1 3).2.2.mono (by decide)⟩,(mn_szs hf hg hh 0 1 2).2.2.neg.mono (by decide)⟩
noncomputable def mtE (i a b : Nat) : List (Ev Tryz.prog) :=
  [(sMtMul ((col_sz hg a).mono (by decide)) ((col_sz hh b).mono (by decide))).e,(sMtMul ((col_sz hg b).mono (by decide)) ((col_sz hh a).mono (by decide))).e,(sMtSub (((col_sz hg a).mul (col_sz hh b)).mono (by decide)) (((col_sz hg b).mul (col_sz hh a)).mono (by decide))).e,
    (sMtMul ((col_sz hf i).mono (by decide)) ((((col_sz hg a).mul (col_sz hh b)).sub ((col_sz hg b).mul (col_sz hh a))).mono (by decide))).e]
noncomputable def mnE (a b c : Nat) : List (Ev Tryz.prog) :=
  have z:=mn_szs hf hg hh a b c
  mtE hf hg hh a b c ++ [sum0 ((mt_sz hf hg hh a b c).mono (by decide))] ++ mtE hf hg hh b c a ++ [sumN (z.1.mono (by decide)) ((mt_sz hf hg hh b c a).mono (by decide))] ++ mtE hf hg hh c a b ++ [sumN (z.2.1.mono (by decide)) ((mt_sz hf hg hh c a b).mono (by decide))]
abbrev zz12 (k : Nat) : SV:=.one (.a [.b (.z k 0),.b (.z (k + 1) 0),.b (.z (k + 2) 0),.b (.z (k + 3) 0),.b (.z (k + 4) 0),.b (.z (k + 5) 0),.b (.z (k + 6) 0),.b (.z (k + 7) 0),.b (.z (k + 8) 0),.b (.z (k + 9) 0),.b (.z (k + 10) 0),.b (.z (k + 11) 0)])
noncomputable abbrev mnF : Func:=Tryz.f161
noncomputable abbrev mnN : Nat:=sizeS mnF [zz12 0]
abbrev nil1 : Lf:=.b (.v (.pointer none))
abbrev mnI (i : Int) : SV:=.one (.c (.b (.v (.int .i64 i))))
abbrev mnSl (c : Int) : List (Nat × SV):=[(1,.one (.c (.b (.p 13 0)))),(2,.one (.c (.b (.p 14 0)))),(3,.one (.c (.b (.p 15 0)))),(12,mnI c)]
abbrev mnOb (f g h : RQ) (cs : List Lf) (l : List Rat) : List Ob :=
  (colT f ++ colT g ++ colT h).map Thing.ob ++ [.dead,.box [.b (.z 0 0),.b (.z 1 0),.b (.z 2 0),.b (.z 3 0),.b (.z 4 0),.b (.z 5 0),.b (.z 6 0),.b (.z 7 0),.b (.z 8 0),.b (.z 9 0),.b (.z 10 0),.b (.z 11 0)] 210,.box [nil1,nil1,nil1,nil1] FRT,.box cs FRT] ++ l.map fun x=>(ratT x).ob
noncomputable abbrev mnC (f g h : RQ) (c : Int) (cs : List Lf) (l : List Rat) (ev : List (Ev Tryz.prog)) : Cf Tryz.prog:=mkC Tryz.prog mnN 12 (mnSl c) (mnOb f g h cs l) ev
noncomputable abbrev mnRes : SV:=(rgV 12).ren (backS 12 [16,17,18,19])
noncomputable abbrev mnOut (f g h : RQ) : List (Nat × Ob):=[16,17,18,19].zip ((rgT (mnQ 0 f g h)).map Thing.ob)
abbrev mnH (β0 : Env) (w : World) (f g h : RQ) (C : Cf Tryz.prog) : Prop:=HdOk Tryz.prog 12 mnN w.heap.size w β0 (bodyPost Tryz.prog mnF (Said Tryz.prog mnF 12 mnRes (mnOut f g h) β0 w)) C (lpAt mnF 0)
abbrev zc (k : Nat) : Lf:=.b (.z k 0)
abbrev mnNs : List (Nat × Nat):=[(18,12),(19,28)]
abbrev eqv73 (b : Bool) : Ev Tryz.prog:=.eqv 73 (.bool b) (.bool b) rfl
section
variable (β0 : Env) (w : World)
theorem mn_end : mnH β0 w f g h (mnC f g h 4 [zc 16,zc 17,zc 18,zc 19] [mn 0 f g h 1 2 3,-(mn 0 f g h 0 2 3),mn 0 f g h 0 1 3,-(mn 0 f g h 0 1 2)] []):=last_ok (Ns:=mnNs) (m:=200) hmA (fun β=>ok_of_maps (by kernel_rfl))
theorem mn_col3 (k : mnH β0 w f g h (mnC f g h 4 [zc 16,zc 17,zc 18,zc 19] [mn 0 f g h 1 2 3,-(mn 0 f g h 0 2 3),mn 0 f g h 0 1 3,-(mn 0 f g h 0 1 2)] [])) :
    mnH β0 w f g h (mnC f g h 3 [zc 16,zc 17,zc 18,nil1] [mn 0 f g h 1 2 3,-(mn 0 f g h 0 2 3),mn 0 f g h 0 1 3] (mnE hf hg hh 0 1 2 ++ [eqv73 true,negN (mn 0 f g h 0 1 2),.cut])) :=
  piece_ok (Ns:=mnNs) (m:=1000) [] [0,1,2,3,4,5,6,7,8,9,10,11,0,13,14,15,16,17,18,36] hmA (by kernel_rfl) (fun β=>ok_of_maps (by kernel_rfl)) k
theorem mn_col2 (k : mnH β0 w f g h (mnC f g h 3 [zc 16,zc 17,zc 18,nil1] [mn 0 f g h 1 2 3,-(mn 0 f g h 0 2 3),mn 0 f g h 0 1 3] (mnE hf hg hh 0 1 2 ++ [eqv73 true,negN (mn 0 f g h 0 1 2),.cut]))) :
    mnH β0 w f g h (mnC f g h 2 [zc 16,zc 17,nil1,nil1] [mn 0 f g h 1 2 3,-(mn 0 f g h 0 2 3)] (mnE hf hg hh 0 1 3 ++ [eqv73 false,.cut])) :=
  piece_ok (Ns:=mnNs) (m:=1000) _ [0,1,2,3,4,5,6,7,8,9,10,11,0,13,14,15,16,17,34] hmA (by kernel_rfl) (fun β=>ok_of_maps (by kernel_rfl)) k
theorem mn_col1 (k : mnH β0 w f g h (mnC f g h 2 [zc 16,zc 17,nil1,nil1] [mn 0 f g h 1 2 3,-(mn 0 f g h 0 2 3)] (mnE hf hg hh 0 1 3 ++ [eqv73 false,.cut]))) :
    mnH β0 w f g h (mnC f g h 1 [zc 16,nil1,nil1,nil1] [mn 0 f g h 1 2 3] (mnE hf hg hh 0 2 3 ++ [eqv73 true,negN (mn 0 f g h 0 2 3),.cut])) :=
  piece_ok (Ns:=mnNs) (m:=1000) _ [0,1,2,3,4,5,6,7,8,9,10,11,0,13,14,15,16,34] hmA (by kernel_rfl) (fun β=>ok_of_maps (by kernel_rfl)) k
theorem mn_col0 (k : mnH β0 w f g h (mnC f g h 1 [zc 16,nil1,nil1,nil1] [mn 0 f g h 1 2 3] (mnE hf hg hh 0 2 3 ++ [eqv73 true,negN (mn 0 f g h 0 2 3),.cut]))) :
    mnH β0 w f g h (mnC f g h 0 [nil1,nil1,nil1,nil1] [] (mnE hf hg hh 1 2 3 ++ [eqv73 false,.cut])) :=
  piece_ok (Ns:=mnNs) (m:=1000) _ [0,1,2,3,4,5,6,7,8,9,10,11,0,13,14,15,32] hmA (by kernel_rfl) (fun β=>ok_of_maps (by kernel_rfl)) k
end
include hf hg hh in
theorem minors_ok (β : Env) (w : World) (hD : ∀ (k : Nat) (t : Thing),(colT f ++ colT g ++ colT h)[k]? = some t → t.D w (β k)) :
    Calls Tryz.prog 161 (([zz12 0] : List SV).map (SV.den β)).toArray w fun e w'=>∃ xs : List Pl,freshS β w 12 xs ∧ e = .returned ((rgV 12).den (extE β 12 xs)) ∧ newHold w' (rgT (mnQ 0 f g h)) xs ∧ Below w.heap.size w w' :=
  (sx_cut (P:=Tryz.prog) [zz12 0] ((colT f ++ colT g ++ colT h).map Thing.ob) [.cut] (mnE hf hg hh 1 2 3 ++ [eqv73 false,.cut]) mnNs 200 mnRes (mnOut f g h) Tryz.func161 hmA (u:=12) (sl:=mnSl 0) (ob:=mnOb f g h [nil1,nil1,nil1,nil1] []) (σ:=[0,1,2,3,4,5,6,7,8,9,10,11,0,12,13,14]) (p':=lpAt mnF 0) (by kernel_rfl) (fun β=>ok_of_maps (by kernel_rfl)) (by kernel_rfl) (by kernel_rfl) β w (fun k o ho=>by
      rw [List.getElem?_map] at ho
      cases hx : (colT f ++ colT g ++ colT h)[k]? with
      | none=>rw [hx] at ho; cases ho
      | some t=>rw [hx] at ho; obtain rfl:=Option.some.inj ho; exact hD k t hx)
    (mn_col0 hf hg hh β w (mn_col1 hf hg hh β w (mn_col2 hf hg hh β w (mn_col3 hf hg hh β w (mn_end β w)))))).mono fun e w' h0=>said_spec (obs:=colT f ++ colT g ++ colT h) (news:=rgT (mnQ 0 f g h)) (idx:=[16,17,18,19]) (by kernel_rfl) rfl h0
noncomputable def sMinors : Spec Tryz.prog :=
  ⟨161,Tryz.call161,[zz12 0],colT f ++ colT g ++ colT h,rgV 12,rgT (mnQ 0 f g h),minors_ok hf hg hh,by kernel_rfl⟩
end
inductive Zk where
  | no0
  | no1
  | no2
  | no3
  | all
def Zk.at (m : RQ) : Zk → Prop
  | .no0=>decide (m.a = 0) = false
  | .no1=>decide (m.a = 0) = true ∧ decide (m.b.re = 0) = false
  | .no2=>decide (m.a = 0) = true ∧ decide (m.b.re = 0) = true ∧ decide (m.b.im = 0) = false
  | .no3=>decide (m.a = 0) = true ∧ decide (m.b.re = 0) = true ∧ decide (m.b.im = 0) = true ∧ decide (m.c = 0) = false
  | .all=>decide (m.a = 0) = true ∧ decide (m.b.re = 0) = true ∧ decide (m.b.im = 0) = true ∧ decide (m.c = 0) = true
def Zk.yes : Zk → Bool
  | .all=>true
  | _=>false
theorem Zk.ex (m : RQ) : ∃ k : Zk,k.at m:=by
  cases h1 : decide (m.a = 0) with
  | false=>exact ⟨.no0,h1⟩
  | true=>cases h2 : decide (m.b.re = 0) with
    | false=>exact ⟨.no1,h1,h2⟩
    | true=>cases h3 : decide (m.b.im = 0) with
      | false=>exact ⟨.no2,h1,h2,h3⟩
      | true=>cases h4 : decide (m.c = 0) with
        | false=>exact ⟨.no3,h1,h2,h3,h4⟩
        | true=>exact ⟨.all,h1,h2,h3,h4⟩
noncomputable def sgN (d : Nat) {x : Rat} {b : Bool} (h : decide (x = 0) = b) : List (Ev Tryz.prog):=[nSign (x:=x) rfl,.eqv d (.bool (!(x.num.sign == 0))) (.bool (!b)) (sign_ne h)]
noncomputable def zkE (m : RQ) : (k : Zk) → k.at m → List (Ev Tryz.prog)
  | .no0,h=>sgN 11 h
  | .no1,h=>sgN 11 h.1 ++ sgN 11 h.2
  | .no2,h=>sgN 11 h.1 ++ sgN 11 h.2.1 ++ sgN 11 h.2.2
  | .no3,h=>sgN 11 h.1 ++ sgN 11 h.2.1 ++ sgN 11 h.2.2.1 ++ sgN 11 h.2.2.2
  | .all,h=>sgN 11 h.1 ++ sgN 11 h.2.1 ++ sgN 11 h.2.2.1 ++ sgN 11 h.2.2.2
noncomputable def sMZero (m : RQ) (k : Zk) (hk : k.at m) : Spec Tryz.prog :=
  ⟨162,Tryz.call162,[rgV 0],rgT m,tB' k.yes,[],fun β w hh=>by
    cases k <;> exact spec_auto (args:=[rgV 0]) (obs:=rgT m) (evs:=zkE m _ hk) (Ns:=[]) (m:=800) Tryz.func162 hmA (fun β=>by kernel_rfl) (by kernel_rfl) β w hh,by cases k <;> kernel_rfl⟩
section
variable {f g h : RQ} (hf : MayC f) (hg : MayC g) (hh : MayC h)
noncomputable def sMBundle {k : Zk} (hk : k.at (mnQ 0 f g h)) : Spec Tryz.prog :=
  Spec.auto Tryz.call61 [frS f,frS g,frS h] [] (.tup [.c (.b (.v (.bool k.yes))),nI' 0]) []
    [(sOpen3 hf hg hh).e,dArr3 (fr3 f g h),dForm3 (fr3 f g h),(sMinors hf.szh hg.szh hh.szh).e,(sMZero _ k hk).e] [] 800 Tryz.func61 hmA (by kernel_rfl) (fun β=>by kernel_rfl)
end
theorem open3no_ok (p q r : Cp) (h : (p.B && (q.B && r.B)) = false) (β : Env) (w : World) (hh : (Ob.box (oq3L p q r) CIT).holds β w (β 0)) :
    Calls Tryz.prog 152 (oc3A.map (SV.den β)).toArray w fun e w'=>e = .returned (.tuple #[.slice none 0 0,.int .i64 2]) ∧ Below w.heap.size w w':=by
  cases p with
  | no a b b' c hp=>cases q <;> cases r <;> exact bspec_ok (ckQ (.no a b b' c hp)) [] 800 Tryz.func152 hmA (fun β=>by kernel_rfl) (by kernel_rfl) (fun β=>rfl) β w hh
  | ok s hs=>cases q with
    | no a b b' c hq=>cases r <;> exact bspec_ok (ckQ (.ok s hs) ++ ckQ (.no a b b' c hq)) [] 800 Tryz.func152 hmA (fun β=>by kernel_rfl) (by kernel_rfl) (fun β=>rfl) β w hh
    | ok t ht=>cases r with
      | no a b b' c hr=>exact bspec_ok (ckQ (.ok s hs) ++ ckQ (.ok t ht) ++ ckQ (.no a b b' c hr)) [] 800 Tryz.func152 hmA (fun β=>by kernel_rfl) (by kernel_rfl) (fun β=>rfl) β w hh
      | ok=>cases h
theorem oq3_cl (p q r : Cp) : ((oq3L p q r).all (Lf.of fun _=>false) && (oc3A.all (SV.of fun k=>Nat.beq k 0))) = true:=by cases p <;> cases q <;> cases r <;> rfl
noncomputable def sOpen3No (p q r : Cp) (h : (p.B && (q.B && r.B)) = false) : BSpec Tryz.prog :=
  ⟨152,Tryz.call152,oc3A,oq3L p q r,CIT,.tuple #[.slice none 0 0,.int .i64 2],open3no_ok p q r h,oq3_cl p q r,fun _=>rfl⟩
abbrev tl3A (f : Nat) : List SV:=[fvV f,.one (.c (.b (.s 0 0 3 3)))]
theorem made3no_ok (f : Nat) (p q r : Cp) (h : (p.B && (q.B && r.B)) = false) (β : Env) (w : World) (hh : (Ob.box (oq3L p q r) CIT).holds β w (β 0)) :
    Calls Tryz.prog 139 ((tl3A f).map (SV.den β)).toArray w fun e w'=>e = .returned (.tuple #[c0V,.int .i64 2]) ∧ Below w.heap.size w w':=by
  cases p <;> cases q <;> cases r <;> exact bspec_ok [(sOpen3No _ _ _ h).e] [] 800 Tryz.func139 hmA (fun β=>by kernel_rfl) (by kernel_rfl) (fun β=>rfl) β w hh
noncomputable def sMade3No (f : Nat) (p q r : Cp) (h : (p.B && (q.B && r.B)) = false) : BSpec Tryz.prog :=
  ⟨139,Tryz.call139,tl3A f,oq3L p q r,CIT,.tuple #[c0V,.int .i64 2],made3no_ok f p q r h,by cases p <;> cases q <;> cases r <;> rfl,fun _=>rfl⟩
noncomputable def sMBundleNo (p q r : Cp) (h : (p.B && (q.B && r.B)) = false) : Spec Tryz.prog :=
  ⟨61,Tryz.call61,[cpS p,cpS q,cpS r],[],.tup [.c (.b (.v (.bool false))),nI' 2],[],fun β w hh=>by
    cases p <;> cases q <;> cases r <;> exact spec_auto (evs:=[(sOpen3No _ _ _ h).e]) (Ns:=[]) (m:=400) Tryz.func61 hmA (fun β=>by kernel_rfl) (by kernel_rfl) β w hh,by cases p <;> cases q <;> cases r <;> kernel_rfl⟩
noncomputable def sMAcrossNo (p q r : Cp) (h : (p.B && (q.B && r.B)) = false) : Spec Tryz.prog :=
  ⟨62,Tryz.call62,[cpS p,cpS q,cpS r],[],.tup [.a c0C,nI' 2],[],fun β w hh=>by
    cases p <;> cases q <;> cases r <;> exact spec_auto (evs:=[(sMade3No 163 _ _ _ h).e]) (Ns:=[]) (m:=400) Tryz.func62 hmA (fun β=>by kernel_rfl) (by kernel_rfl) β w hh,by cases p <;> cases q <;> cases r <;> kernel_rfl⟩
section
variable {f g h : RQ} (hf : RSz KH f) (hg : RSz KH g) (hh : RSz KH h)
abbrev z0 : Rat:=Rat.divInt 0 1
theorem mn_z0 (a b c : Nat) : mn z0 f g h a b c = mn 0 f g h a b c:=by unfold mn z0; rw [zero_div]
include hf hg hh in
theorem mr_szs (a b c : Nat) : Sz (8 + KMT + 1) (z0 + mt f g h a b c) ∧ Sz (8 + KMT + 1 + KMT + 1) (z0 + mt f g h a b c + mt f g h b c a):=by
  have a1:=zero_sz.add (mt_sz hf hg hh a b c)
  exact ⟨a1,a1.add (mt_sz hf hg hh b c a)⟩
noncomputable def mrE {z : Rat} {k : Nat} (hz : Sz k z) (hk : k ≤ 100000) (i a b : Nat) : List (Ev Tryz.prog) :=
  [(sR3Times ((col_sz hg a).mono (by decide)) ((col_sz hh b).mono (by decide))).e,(sR3Times ((col_sz hg b).mono (by decide)) ((col_sz hh a).mono (by decide))).e,(sR3Minus (((col_sz hg a).mul (col_sz hh b)).mono (by decide)) (((col_sz hg b).mul (col_sz hh a)).mono (by decide))).e,
    (sR3Times ((col_sz hf i).mono (by decide)) ((((col_sz hg a).mul (col_sz hh b)).sub ((col_sz hg b).mul (col_sz hh a))).mono (by decide))).e,(sR3Plus (hz.mono (Nat.le_trans hk (by decide))) ((mt_sz hf hg hh i a b).mono (by decide))).e]
noncomputable def mRE (a b c : Nat) : List (Ev Tryz.prog) :=
  have z:=mr_szs hf hg hh a b c
  (sR3Int 0 (by decide)).e :: (mrE hf hg hh zero_sz (by decide) a b c ++ mrE hf hg hh z.1 (by decide) b c a ++ mrE hf hg hh z.2 (by decide) c a b)
abbrev cocL (f : RQ) : List Lf:=fC (colQ f 0) ++ fC (colQ f 1) ++ fC (colQ f 2) ++ fC (colQ f 3)
abbrev mrA (f g h : RQ) (n : Int) : List SV:=[.one (.a (cocL f ++ cocL g ++ cocL h)),.one (nI' n)]
abbrev mrN : List (Nat × Nat):=[(13,18),(14,18),(15,12)]
noncomputable def sR13M0 : Spec Tryz.prog:=(Spec.auto Tryz.call164 (mrA f g h 0) [] (fcS (mn z0 f g h 1 2 3)) [] (mRE hf hg hh 1 2 3) mrN 3000 Tryz.func164 hmA (by kernel_rfl) (fun β=>by kernel_rfl)).conv (fcS (mn 0 f g h 1 2 3)) (congrArg fcS (mn_z0 1 2 3))
noncomputable def sR13M1 : Spec Tryz.prog:=(Spec.auto Tryz.call164 (mrA f g h 1) [] (fcS (-(mn z0 f g h 0 2 3))) [] (mRE hf hg hh 0 2 3 ++ [(sR3Neg (mn z0 f g h 0 2 3)).e]) mrN 3000 Tryz.func164 hmA (by kernel_rfl) (fun β=>by kernel_rfl)).conv (fcS (-(mn 0 f g h 0 2 3))) (congrArg (fun x=>fcS (-x)) (mn_z0 0 2 3))
noncomputable def sR13M2 : Spec Tryz.prog:=(Spec.auto Tryz.call164 (mrA f g h 2) [] (fcS (mn z0 f g h 0 1 3)) [] (mRE hf hg hh 0 1 3) mrN 3000 Tryz.func164 hmA (by kernel_rfl) (fun β=>by kernel_rfl)).conv (fcS (mn 0 f g h 0 1 3)) (congrArg fcS (mn_z0 0 1 3))
noncomputable def sR13M3 : Spec Tryz.prog:=(Spec.auto Tryz.call164 (mrA f g h 3) [] (fcS (-(mn z0 f g h 0 1 2))) [] (mRE hf hg hh 0 1 2 ++ [(sR3Neg (mn z0 f g h 0 1 2)).e]) mrN 3000 Tryz.func164 hmA (by kernel_rfl) (fun β=>by kernel_rfl)).conv (fcS (-(mn 0 f g h 0 1 2))) (congrArg (fun x=>fcS (-x)) (mn_z0 0 1 2))
noncomputable def sg3 (d : Nat) {x : Rat} {b : Bool} (h : decide (x = 0) = b) : List (Ev Tryz.prog):=[(sR3Sign (x:=x) rfl).e,.eqv d (.bool (!(x.num.sign == 0))) (.bool (!b)) (sign_ne h)]
noncomputable def zk3 : (k : Zk) → k.at (mnQ 0 f g h) → List (Ev Tryz.prog)
  | .no0,k=>(sR13M0 hf hg hh).e :: sg3 24 k
  | .no1,k=>(sR13M0 hf hg hh).e :: sg3 24 k.1 ++ (sR13M1 hf hg hh).e :: sg3 24 k.2
  | .no2,k=>(sR13M0 hf hg hh).e :: sg3 24 k.1 ++ (sR13M1 hf hg hh).e :: sg3 24 k.2.1 ++ (sR13M2 hf hg hh).e :: sg3 24 k.2.2
  | .no3,k=>(sR13M0 hf hg hh).e :: sg3 24 k.1 ++ (sR13M1 hf hg hh).e :: sg3 24 k.2.1 ++ (sR13M2 hf hg hh).e :: sg3 24 k.2.2.1 ++ (sR13M3 hf hg hh).e :: sg3 24 k.2.2.2
  | .all,k=>(sR13M0 hf hg hh).e :: sg3 24 k.1 ++ (sR13M1 hf hg hh).e :: sg3 24 k.2.1 ++ (sR13M2 hf hg hh).e :: sg3 24 k.2.2.1 ++ (sR13M3 hf hg hh).e :: sg3 24 k.2.2.2
noncomputable def sR13Bundle (k : Zk) (hk : k.at (mnQ 0 f g h)) : Spec Tryz.prog :=
  ⟨63,Tryz.call63,[frS f,frS g,frS h],[],tB' k.yes,[],fun β w hw=>by
    cases k <;> exact spec_auto (evs:=[(sR13Of f).e,(sR13Of g).e,(sR13Of h).e] ++ zk3 hf hg hh _ hk) (Ns:=[(1,8)]) (m:=1200) Tryz.func63 hmA (fun β=>by kernel_rfl) (by kernel_rfl) β w hw,by cases k <;> kernel_rfl⟩
end
def upQ (f : RQ) : RQ:=⟨f.c / Rat.divInt (-2) 1,f.b,f.a / Rat.divInt (-2) 1⟩
def upR (f : RQ) : RQ:=⟨-f.c * hf2,f.b,-f.a * hf2⟩
theorem up_eq (f : RQ) : upR f = upQ f:=by
  have h1 : (Rat.divInt (-2) 1)⁻¹ = -hf2:=of_decide_eq_true (by kernel_rfl : decide ((Rat.divInt (-2) 1 : Rat)⁻¹ = -hf2) = true)
  unfold upR upQ
  rw [Rat.div_def,Rat.div_def,h1]
  congr 1 <;> grind
theorem MayC.s1024 {f : RQ} (h : MayC f) : RSz 1024 f:=⟨h.fit.1.sz,h.fit.2.1.gsz,h.fit.2.2.sz⟩
theorem up_sz {f : RQ} (h : MayC f) : RSz KH (upQ f) :=
  ⟨(div_sz h.s1024.c two_sz m2_ne).mono (by decide),h.s1024.b.mono (by decide),(div_sz h.s1024.a two_sz m2_ne).mono (by decide)⟩
theorem upR_sz {f : RQ} (h : MayC f) : RSz KH (upR f):=by rw [up_eq]; exact up_sz h
abbrev acQ (f g h : RQ) : RQ:=mnQ 0 (upQ f) (upQ g) (upQ h)
section
variable {f g h : RQ} (hf : MayC f) (hg : MayC g) (hh : MayC h)
noncomputable def upE {x : Rat} (hx : Sz 1024 x) : List (Ev Tryz.prog):=[(sR3Neg x).e,(sR13Half (hx.neg.mono (by decide))).e]
noncomputable def sR13Up : Spec Tryz.prog :=
  (Spec.auto Tryz.call165 [.one (.a (cC f ++ cC g ++ cC h))] [] (frS (mnQ 0 (upR f) (upR g) (upR h))) []
    (upE hf.s1024.c ++ upE hf.s1024.a ++ upE hg.s1024.c ++ upE hg.s1024.a ++ upE hh.s1024.c ++ upE hh.s1024.a ++ [(sR13M0 (upR_sz hf) (upR_sz hg) (upR_sz hh)).e,(sR13M1 (upR_sz hf) (upR_sz hg) (upR_sz hh)).e,(sR13M2 (upR_sz hf) (upR_sz hg) (upR_sz hh)).e,(sR13M3 (upR_sz hf) (upR_sz hg) (upR_sz hh)).e])
    [(5,23),(6,9)] 2000 Tryz.func165 hmA (by kernel_rfl) (fun β=>by kernel_rfl)).conv (frS (acQ f g h)) (congrArg frS (show mnQ 0 (upR f) (upR g) (upR h) = acQ f g h by rw [up_eq,up_eq,up_eq]))
include hf hg hh in
theorem ac_sz : RSz 17000 (acQ f g h):=mnQ_sz (up_sz hf) (up_sz hg) (up_sz hh)
noncomputable def sR13Across {b : Bool} (hb : wtB (acQ f g h) = b) : Spec Tryz.prog :=
  Spec.auto Tryz.call64 [frS f,frS g,frS h] [] (wxA (acQ f g h) hb) []
    [(sR13Of f).e,(sR13Of g).e,(sR13Of h).e,(sR13Up hf hg hh).e,(sR13Circle ((ac_sz hf hg hh).mono (by decide)) hb).e] [(1,11)] 1200 Tryz.func64 hmA (by kernel_rfl) (fun β=>by kernel_rfl)
end
end Go.Proofs.YtimfgjcidigbiaaGreat.Y
end
section
namespace Go.Proofs.YtimfgjcidigbiaaGreat.Y
open Go Go.RowKit
set_option maxRecDepth 100000
def fullM (P : Program) (mo : Nat) (fn : Func) (args : List SV) (obs : List Ob) (evs : List (Ev P)) (Ns : List (Nat × Nat)) (m : Nat) (c : Code) : Option (Cf P) :=
  runC P mo (sizeS fn args) Ns m (some c) [] ⟨startS args 0,fun k=>Nat.blt k obs.length,obs,evs,[]⟩
def allM (P : Program) (mo : Nat) (fn : Func) (args : List SV) (obs : List Ob) (evs : List (Ev P)) (Ns : List (Nat × Nat)) (m : Nat) (res : SV) (outs : List (Nat × Ob)) (β : Env) : Eqs :=
  match fn.body with
  | some c=>match fullM P mo fn args obs evs Ns m c with
    | some f=>fin1 P fn mo (sizeS fn args) res outs f β
    | none=>Eqs.no
  | none=>Eqs.no
def bdM (w : World) (mo n : Nat) (β : Env) : Bd:=⟨w.heap.size,fun c=>∃ i,mo ≤ i ∧ i < n ∧ c = (β i).b,n⟩
theorem sxM {P : Program} {f : FuncId} {fn : Func} (mo : Nat) (args : List SV) (obs : List Ob) (evs : List (Ev P)) (Ns : List (Nat × Nat)) (m : Nat) (res : SV) (outs : List (Nat × Ob)) (hf : P.funcs[f]? = some fn) (hm : P.follows .mixedOrders = true)
    (hok : ∀ β,Eqs.ok (allM P mo fn args obs evs Ns m res outs β)) (hmo : mo ≤ obs.length)
    (hargs : args.all (SV.of fun k=>Nat.blt k obs.length) = true) (hobs : obs.all (fun x=>x.of (fun k=>Nat.blt k obs.length) && x.own) = true)
    (hlay : ∀ k,mo ≤ k → k < obs.length → isLayB obs[k]? = true) (houts : ∀ k,mo ≤ k → k < obs.length → ∃ x p,(k,x) ∈ outs ∧ x.layOf = some p)
    (β : Env) (w : World) (hh : ∀ (k : Nat) (o : Ob),obs[k]? = some o → o.holds β w (β k))
    (hsep : ∀ k j,mo ≤ k → k < obs.length → j < obs.length → j ≠ k → ¬ (β j).F (β k).b) :
    Calls P f (args.map (SV.den β)).toArray w fun e w'=>∃ (β' : Env) (q : Nat → Bool),(∀ k,k < obs.length → β' k = β k) ∧ e = .returned (res.den β') ∧ res.of q = true ∧ (∀ p ∈ outs,p.2.isTh = true → ∀ c,(β' p.1).F c → (w.heap.size ≤ c ∧ ∀ i,mo ≤ i → i < obs.length → c ≠ (β i).b) ∨ ∃ i,i < mo ∧ (β i).F c) ∧ holdsAll β' w' outs ∧ Keep (bdM w mo obs.length β) w w':=by
  have hnal : ∀ (k r : Nat) (D : Thing),obs[k]? ≠ some (.al r D):=fun k r D ho=>by
    have:=List.all_eq_true.1 hobs _ (List.mem_of_getElem? ho)
    simp [Ob.own] at this
  have huq : UniqAl obs:=fun k j i D _ h1 _=>absurd h1 (hnal k i D)
  have hlt : ∀ k,k < obs.length → ∀ c,(β k).F c → c < w.heap.size:=fun k hk c hc=>by
    have h:=hh k _ (List.getElem?_eq_getElem hk)
    cases hx : obs[k] with
    | box cs t=>rw [hx] at h; rw [(h.1.1 c).1 hc]; exact heap_lt h.2
    | th D=>rw [hx] at h; exact D.st.lt _ _ h c hc
    | al r D=>rw [hx] at h; exact D.st.lt _ _ h c hc
    | pl n=>rw [hx] at h; rw [(h.1.1 c).1 hc]; exact h.2.lt
    | row cs t n sz=>rw [hx] at h; rw [(h.1.1 c).1 hc]; exact heap_lt h.2.choose_spec.1
    | dead =>
      have:=List.all_eq_true.1 hobs _ (List.mem_of_getElem? (List.getElem?_eq_getElem hk))
      rw [hx] at this
      simp [Ob.own] at this
  have hone : ∀ k,mo ≤ k → k < obs.length → (β k).one:=fun k h1 h2=>by
    obtain ⟨y,p,e1,e2⟩:=isLayB_iff (hlay k h1 h2)
    exact lay_one e2 (hh k y e1)
  have hnpl : ∀ k N,mo ≤ k → k < obs.length → obs[k]? ≠ some (.pl N):=fun k N h1 h2 e=>by
    obtain ⟨y,p,e1,e2⟩:=isLayB_iff (hlay k h1 h2)
    rw [e] at e1
    rw [← Option.some.inj e1] at e2
    cases e2
  cases hb : fn.body with
  | none=>have:=hok β; unfold allM at this; rw [hb] at this; exact (Eqs.no_ok this).elim
  | some c =>
    have h1 : ∀ β,Eqs.ok (match fullM P mo fn args obs evs Ns m c with | some f=>fin1 P fn mo (sizeS fn args) res outs f β | none=>Eqs.no):=fun β=>by
      have:=hok β
      unfold allM at this
      rw [hb] at this
      exact this
    cases hr : fullM P mo fn args obs evs Ns m c with
    | none=>have:=h1 β; rw [hr] at this; exact (Eqs.no_ok this).elim
    | some g =>
      have h2 : ∀ β,Eqs.ok (fin1 P fn mo (sizeS fn args) res outs g β):=fun β=>by have:=h1 β; rw [hr] at this; exact this
      unfold fullM at hr
      obtain ⟨_,r2,r3⟩:=runC_ok hm _ _ _ _ _ hr ⟨fun k=>by dsimp only; rw [Nat.blt_eq],huq⟩
      have fin : ∃ r : R1 Value,run1 P mo false (results fn (tmpsS idE g.sl (sizeS fn args))) g.q g.ob [] = some r ∧ res.of g.q = true ∧ r.ob.length = g.ob.length ∧
          ∀ β,Eqs.ok (chk P β (results fn (tmpsS β g.sl (sizeS fn args))) r.tr.reverse (fun u=>[(.v u,.v (res.den β))]) ++ (needEqs g.q g.ob outs ++ eqsOf β g.cs)):=by
        cases hx : run1 P mo false (results fn (tmpsS idE g.sl (sizeS fn args))) g.q g.ob [] with
        | none=>have:=h2 β; unfold fin1 at this; rw [hx] at this; exact (Eqs.no_ok this).elim
        | some r =>
          obtain ⟨ra,rq,rob,rtr⟩:=r
          cases hc : (res.of g.q && Nat.beq rob.length g.ob.length && Nat.beq g.ev.length 0) with
          | false=>have:=h2 β; unfold fin1 at this; rw [hx] at this; dsimp only at this; rw [hc] at this; exact (Eqs.no_ok this).elim
          | true =>
            have h3:=hc
            simp only [Bool.and_eq_true,Nat.beq_eq] at hc
            refine ⟨_,rfl,hc.1.1,hc.1.2,fun β=>?_⟩
            have:=h2 β
            unfold fin1 at this
            rw [hx] at this
            dsimp only at this
            rw [h3] at this
            exact this
      obtain ⟨r,f1,f2,f3,f4⟩:=fin
      have hgood : g.good:=fun β x hx=>eqsOf_ok (fun p hp=>f4 β p (List.mem_append.2 (.inr (List.mem_append.2 (.inr hp))))) x hx
      refine calls_of_wp hf hb (r3 hgood (B0:=bdM w mo obs.length β) (w0:=w) (β:=β) ⟨⟨Keep.refl _ _,Nat.le_refl _,fun k o hk ho=>⟨hh k o ho,(Bool.and_eq_true _ _ ▸ List.all_eq_true.1 hobs o (List.mem_of_getElem? ho)).1⟩,fun k hk=>hlt k (by simpa [Nat.blt_eq] using hk),
        fun k j hk hj hne hm _ _=>hsep k j hm (by simpa [Nat.blt_eq] using hk) (by simpa [Nat.blt_eq] using hj) hne,fun k _ hk hm _ _=>.inr ⟨k,hm,by simpa [Nat.blt_eq] using hk,rfl⟩,
        fun k hk hm c hc=>.inl (.inr ⟨k,hm,by simpa [Nat.blt_eq] using hk,((hone k hm (by simpa [Nat.blt_eq] using hk)).1 c).1 hc⟩),fun i hi=>by rw [Nat.blt_eq]; omega,fun k r D _ ho=>?_,fun k r D _ ho=>absurd ho (hnal k r D),
        fun k i _ hi _ hm _ ⟨N,hp⟩=>absurd hp (hnpl i N hm (by simpa [Nat.blt_eq] using hi))⟩,fun k=>by dsimp only; rw [Nat.blt_eq],⟨?_,fun t=>?_⟩,fun t=>?_,⟨hmo,Nat.le_refl _⟩,rfl,huq⟩ _ fun β' a' w' e s=>?_)
      · exact absurd ho (hnal k r D)
      · simp [sizeS]
      · rw [look_start,if_pos (Nat.zero_le _),Nat.sub_zero]
        simp only [Array.getD_eq_getD_getElem?,Array.getElem?_append,List.size_toArray,List.length_map,List.getElem?_toArray,List.getElem?_map]
        split
        · rename_i hlt2
          rw [List.getElem?_eq_getElem hlt2]
          rfl
        · rename_i hge
          rw [List.getElem?_eq_none (by omega)]
          simp [Array.getElem?_replicate]
          split <;> rfl
      · dsimp only
        rw [look_start,if_pos (Nat.zero_le _),Nat.sub_zero]
        cases hx : args[t]? with
        | none=>rfl
        | some x=>exact List.all_eq_true.1 hargs x (List.mem_of_getElem? hx)
      · have e : ∀ k,k < obs.length → β' k = β k:=e
        obtain ⟨h5,_,_,tr,h8,h9⟩:=run1_ok _ _ _ _ _ f1 (fun k hk=>(s.q k).1 hk)
        obtain ⟨k1,obj',k2,k3,k4⟩:=h9 _ _ _ _ _ _ s.good (fun k hk=>⟨hk,rfl⟩) (fun k a b=>by omega) s.m0.1
        have h6:=f4 β'
        rw [h8,List.append_nil,List.reverse_reverse] at h6
        have h7 : Eqs.ok (chk P β' (results fn (tmpsS β' g.sl (sizeS fn args))) tr (fun u=>[(.v u,.v (res.den β'))])):=fun p hp=>h6 p (List.mem_append.2 (.inl hp))
        obtain ⟨v,hv,hv2⟩:=chk_run _ _ _ h7 k1
        obtain ⟨e1,_⟩:=Eqs.cons_ok hv2
        injection e1 with e1
        subst e1
        rw [f3,rangeQ_self] at k4
        have hend : trEnd β' w' tr = w':=by
          obtain ⟨tr2,x1,x2⟩:=run1_still _ _ _ _ _ f1 (fun k hk=>(s.q k).1 hk) f3
          rw [h8,List.append_nil,List.append_nil] at x1
          rw [List.reverse_inj.1 x1]
          exact x2 β' w'
        rw [hend] at hv k4
        rw [← tmps_eq s.sl] at hv
        have hneed : Eqs.ok (needEqs g.q g.ob outs):=fun p hp=>f4 β' p (List.mem_append.2 (.inr (List.mem_append.2 (.inl hp))))
        have hout : ∀ p ∈ outs,p.2.isTh = true → ∀ c,(β' p.1).F c → (w.heap.size ≤ c ∧ ∀ i,mo ≤ i → i < obs.length → c ≠ (β i).b) ∨ ∃ i,i < mo ∧ (β i).F c:=fun p hp hth c hc=>by
          have hpq:=needs_q _ hneed p hp
          obtain ⟨z,hz,hzp⟩:=needs_get hneed p hp
          have hzt : z.isTh = true:=Ob.plain_th (y:=z) (x:=p.2) (by rw [hzp]; exact hth)
          have hno : ∀ i,mo ≤ i → i < obs.length → p.1 ≠ i ∧ ¬ (β' p.1).F (β i).b:=fun i i1 i2=>by
            obtain ⟨x,pl,hx,hxl⟩:=houts i i1 i2
            obtain ⟨y,hy,hyp⟩:=needs_get hneed _ hx
            have hyl : y.layOf = some pl:=by
              cases y with
              | th D=>cases x <;> first | (cases hxl; done) | (cases hyp; done)
              | al r D=>cases x <;> first | (cases hxl; done) | (cases hyp; done)
              | box cs t=>have h : Ob.box cs t = x:=hyp; rw [h]; exact hxl
              | pl n=>have h : Ob.pl n = x:=hyp; rw [h]; exact hxl
              | row cs t n sz=>have h : Ob.row cs t n sz = x:=hyp; rw [h]; exact hxl
              | dead=>have h : Ob.dead = x:=hyp; rw [h]; exact hxl
            have hne : p.1 ≠ i:=fun e2=>by
              rw [e2] at hz
              have hy' : g.ob[i]? = some y:=hy
              rw [hz] at hy'
              rw [Option.some.inj hy'] at hzt
              cases y <;> first | (cases hyl; done) | (cases hzt; done)
            refine ⟨hne,?_⟩
            rw [← e i i2]
            exact s.good.ne i p.1 (needs_q _ hneed _ hx) hpq hne i1 (.inl ⟨y,hy,pl,hyl⟩) (by
              show g.ob[p.1]? ≠ _
              rw [hz]
              intro e2
              rw [Option.some.inj e2] at hzt
              cases hzt)
          by_cases h0 : mo ≤ p.1
          · rcases s.good.fr p.1 hpq h0 c hc with (h10 | ⟨i,i1,i2,i3⟩) | ⟨i,i1,i2⟩
            · exact .inl ⟨h10,fun i i1 i2 e2=>(hno i i1 i2).2 (e2 ▸ hc)⟩
            · exact absurd (i3 ▸ hc) (hno i i1 i2).2
            · exact .inr ⟨i,i1,by rw [← e i (by omega)]; exact i2⟩
          · exact .inr ⟨p.1,by omega,by rw [← e p.1 (by omega)]; exact hc⟩
        have hres : bodyPost P fn (fun e w'=>∃ (β' : Env) (q : Nat → Bool),(∀ k,k < obs.length → β' k = β k) ∧ e = .returned (res.den β') ∧ res.of q = true ∧ (∀ p ∈ outs,p.2.isTh = true → ∀ c,(β' p.1).F c → (w.heap.size ≤ c ∧ ∀ i,mo ≤ i → i < obs.length → c ≠ (β i).b) ∨ ∃ i,i < mo ∧ (β i).F c) ∧ holdsAll β' w' outs ∧ Keep (bdM w mo obs.length β) w w') .normal a' w' :=
          ⟨s.defers,_,hv,β',g.q,e,rfl,f2,hout,needs_hold s.good (fun k hk=>⟨hk,rfl⟩) _ hneed,k4.bel⟩
        exact ⟨hres,hres⟩
def Ob.renL (ρ : Nat → Nat) : Ob → Ob
  | .box cs t=>.box (cs.map (Lf.ren ρ)) t
  | .row cs t n sz=>.row (cs.map (Lf.ren ρ)) t n sz
  | x=>x
theorem Ob.renL_holds {β : Env} {w : World} {g : Pl} {ρ : Nat → Nat} : ∀ {o : Ob},(o.renL ρ).holds β w g ↔ o.holds (fun k=>β (ρ k)) w g
  | .box cs t=>by
    have h : (cs.map (Lf.ren ρ)).map (Lf.den β) = cs.map (Lf.den fun k=>β (ρ k)):=by
      rw [List.map_map]
      exact List.map_congr_left fun x _=>Lf.den_ren β ρ x
    show (g.one ∧ w.heap[g.b]? = some (.cells ((cs.map (Lf.ren ρ)).map (Lf.den β)).toArray t (0,0))) ↔ _
    rw [h]
    exact Iff.rfl
  | .row cs t n sz=>by
    have h : (cs.map (Lf.ren ρ)).map (Lf.den β) = cs.map (Lf.den fun k=>β (ρ k)):=by
      rw [List.map_map]
      exact List.map_congr_left fun x _=>Lf.den_ren β ρ x
    show (g.one ∧ ∃ cur,w.heap[g.b]? = some (.cells cur t (0,0)) ∧ (cs.map (Lf.ren ρ)).length = n * sz ∧ n ≤ g.c 0 ∧ g.c 0 ≤ maxLen ∧ cur.size = g.c 0 * sz ∧ cur.toList.take (n * sz) = (cs.map (Lf.ren ρ)).map (Lf.den β)) ↔ _
    rw [h,List.length_map]
    exact Iff.rfl
  | .th _=>Iff.rfl
  | .al _ _=>Iff.rfl
  | .pl _=>Iff.rfl
  | .dead=>Iff.rfl
structure MSpec (P : Program) where
  f : FuncId
  en : Enters P f
  args : List SV
  obs : List Thing
  a : Ob
  b : Ob
  res : SV
  news : List Thing
  ok : ∀ β w,(∀ (k : Nat) (t : Thing),obs[k]? = some t → t.D w (β k)) → a.holds β w (β obs.length) → Calls P f (args.map (SV.den β)).toArray w fun e w'=>∃ xs : List Pl,freshS β w obs.length xs ∧ e = .returned (res.den (extE β (obs.length + 1) xs)) ∧ newHold w' news xs ∧ b.holds (extE β (obs.length + 1) xs) w' (β obs.length) ∧ TouchL w w' [(β obs.length).b]
  closed : (args.all (SV.of fun k=>Nat.blt k (obs.length + 1)) && (a.of (fun k=>Nat.blt k (obs.length + 1)) && (b.of (fun k=>Nat.blt k (obs.length + 1 + news.length)) && res.of fun k=>Nat.blt k (obs.length + 1 + news.length)))) = true
def atM (σ : List Nat) (m n k : Nat) : Nat:=lit (bif Nat.blt k (m + 1) then σ.getD k 0 else n + (k - (m + 1))) fun j=>j
def needsM (σ : List Nat) : List Thing → Nat → List (Nat × Ob)
  | [],_=>[]
  | t :: r,k=>lit (σ.getD k 0) fun j=>(j,t.ob) :: needsM σ r (k + 1)
theorem needsM_at {σ : List Nat} : ∀ {l : List Thing} {i k : Nat} {t : Thing},l[k]? = some t → (σ.getD (i + k) 0,t.ob) ∈ needsM σ l i
  | x :: r,i,0,t,h=>by
    simp only [List.getElem?_cons_zero] at h
    obtain rfl:=Option.some.inj h
    unfold needsM
    rw [lit_eq]
    exact List.mem_cons_self ..
  | x :: r,i,k + 1,t,h=>by
    have:=needsM_at (σ:=σ) (l:=r) (i:=i + 1) (k:=k) (t:=t) (by simpa using h)
    unfold needsM
    rw [lit_eq,show i + (k + 1) = i + 1 + k by omega]
    exact List.mem_cons_of_mem _ this
theorem Ob.holds_cgL {q : Nat → Bool} {β β' : Env} {w : World} {g : Pl} (hq : ∀ k,q k = true → β k = β' k) {o : Ob} (h : o.of q = true) (k : o.holds β w g) : o.holds β' w g:=Ob.holds_congr hq o h k
def MSpec.ev {P : Program} (S : MSpec P) (σ : List Nat) (n : Nat) (hσ : (Nat.ble (S.obs.length + 1) σ.length && σ.all fun k=>Nat.blt k n) = true) : Ev P :=
  .mut S.f S.en (fun β=>(S.args.map (SV.den fun k=>β (atM σ S.obs.length n k))).toArray) (needsM σ S.obs 0) [⟨lit (σ.getD S.obs.length 0) fun j=>j,S.a.renL (atM σ S.obs.length n),S.b.renL (atM σ S.obs.length n)⟩] n (S.res.ren (atM σ S.obs.length n)) S.news fun β w h hm=>by
    have hc:=S.closed
    simp only [Bool.and_eq_true] at hc
    obtain ⟨hc1,hc2,hc3,hc4⟩:=hc
    have hat : ∀ k,k < S.obs.length + 1 → atM σ S.obs.length n k = σ.getD k 0:=fun k hk=>by
      unfold atM
      rw [lit_eq,show Nat.blt k (S.obs.length + 1) = true by rw [Nat.blt_eq]; exact hk,cond_true]
    have hat2 : ∀ k,¬ k < S.obs.length + 1 → atM σ S.obs.length n k = n + (k - (S.obs.length + 1)):=fun k hk=>by
      unfold atM
      rw [lit_eq,show Nat.blt k (S.obs.length + 1) = false by rw [Bool.eq_false_iff,ne_eq,Nat.blt_eq]; exact hk,cond_false]
    rw [Bool.and_eq_true,Nat.ble_eq] at hσ
    have hsn : ∀ k,k < S.obs.length + 1 → σ.getD k 0 < n:=fun k hk=>by
      rw [List.getD_eq_getElem?_getD]
      cases hx : σ[k]? with
      | none=>rw [List.getElem?_eq_none_iff] at hx; omega
      | some y=>have:=List.all_eq_true.1 hσ.2 y (List.mem_of_getElem? hx); rw [Nat.blt_eq] at this; exact this
    have h1:=hm _ (List.mem_singleton.2 rfl)
    dsimp only at h1
    rw [lit_eq] at h1
    have hγ : atM σ S.obs.length n S.obs.length = σ.getD S.obs.length 0:=hat _ (by omega)
    refine (S.ok (fun k=>β (atM σ S.obs.length n k)) w (fun k t hk=>?_) ?_).mono ?_
    · have hlt : k < S.obs.length:=(List.getElem?_eq_some_iff.1 hk).1
      have:=h _ (needsM_at (i:=0) hk)
      rw [Nat.zero_add] at this
      show t.D w (β (atM σ S.obs.length n k))
      rw [hat k (by omega)]
      exact this
    · show S.a.holds (fun k=>β (atM σ S.obs.length n k)) w (β (atM σ S.obs.length n S.obs.length))
      rw [hγ]
      exact Ob.renL_holds.1 h1
    · rintro e w' ⟨xs,k1,rfl,k3,k4,k5⟩
      replace k4 : S.b.holds (extE (fun k=>β (atM σ S.obs.length n k)) (S.obs.length + 1) xs) w' (β (atM σ S.obs.length n S.obs.length)):=k4
      replace k5 : TouchL w w' [(β (atM σ S.obs.length n S.obs.length)).b]:=k5
      rw [hγ] at k4 k5
      have hlen:=(newHold_get k3).1
      have hall : ∀ k,Nat.blt k (S.obs.length + 1 + S.news.length) = true → extE (fun k=>β (atM σ S.obs.length n k)) (S.obs.length + 1) xs k = extE β n xs (atM σ S.obs.length n k):=fun k hk=>by
        rw [Nat.blt_eq] at hk
        by_cases hk2 : k < S.obs.length + 1
        · have:=hsn k hk2
          rw [hat k hk2,extE_out (β:=β) (n:=n) (k:=σ.getD k 0) (xs:=xs) (by omega),extE_out (n:=S.obs.length + 1) (k:=k) (xs:=xs) (by omega),hat k hk2]
        · rw [hat2 k hk2]
          have h5 : k - (S.obs.length + 1) < xs.length:=by omega
          rw [extE_in (List.getElem?_eq_getElem h5)]
          have:=extE_in (β:=fun k=>β (atM σ S.obs.length n k)) (n:=S.obs.length + 1) (List.getElem?_eq_getElem h5)
          rw [show S.obs.length + 1 + (k - (S.obs.length + 1)) = k by omega] at this
          exact this
      refine ⟨xs,fun x hx c hc5=>?_,?_,k3,fun m hm2=>?_,?_⟩
      · rcases k1 x hx c hc5 with h5 | ⟨i,h5,h6⟩
        · exact .inl h5
        · refine .inr ⟨_,needsM_at (σ:=σ) (i:=0) (List.getElem?_eq_getElem h5),rfl,?_⟩
          rw [Nat.zero_add]
          have h7 : (β (atM σ S.obs.length n i)).F c:=h6
          rw [hat i (by omega)] at h7
          exact h7
      · rw [SV.den_ren]
        congr 1
        exact SV.den_congr hall _ hc4
      · obtain rfl:=List.mem_singleton.1 hm2
        dsimp only
        rw [lit_eq]
        exact Ob.renL_holds.2 (Ob.holds_cgL hall hc3 k4)
      · rw [List.map_cons,List.map_nil]
        dsimp only
        rw [lit_eq]
        exact k5
def mtLay (o c : Ob) : List (Nat × Nat):=match o,c with
  | .box xs _,.box ys _=>mtLs xs ys
  | .row xs _ _ _,.row ys _ _ _=>mtLs xs ys
  | _,_=>[]
def sigR {P : Program} (S : MSpec P) (xs : List SV) (ob : List Ob) : List Nat :=
  sigL (mtVs S.args xs ++ (match ob[sigM (mtVs S.args xs) S.obs.length]? with | some c=>mtLay S.a c | none=>[])) 0 (S.obs.length + 1)
def MSpec.e {P : Program} (S : MSpec P) : Ev P:=.dyn (fun o _ _=>isCallB o) fun _ xs ob =>
  lits (sigR S xs ob) fun σ=>lit ob.length fun n=>if h : (Nat.ble (S.obs.length + 1) σ.length && σ.all fun k=>Nat.blt k n) = true then S.ev σ n h else .eqv 0 undef undef rfl
structure CRow (P : Program) where
  f : FuncId
  en : Enters P f
  args : List SV
  cs : List Lf
  t : TypeId
  row : Ob
  res : SV
  news : List Thing
  ok : ∀ β w,(Ob.box cs t).holds β w (β 0) → Calls P f (args.map (SV.den β)).toArray w fun e w'=>∃ (g : Pl) (xs : List Pl),(w.heap.size ≤ g.b ∧ (∀ x ∈ xs,∀ c,x.F c → w.heap.size ≤ c) ∧ ∀ x ∈ xs,¬ x.F g.b) ∧ e = .returned (res.den (extE β 1 (g :: xs))) ∧ row.holds (extE β 1 (g :: xs)) w' g ∧ newHold w' news xs ∧ Below w.heap.size w w'
  cl : (cs.all (Lf.of fun _=>false) && (args.all (SV.of fun k=>Nat.beq k 0) && (row.of (fun k=>Nat.ble 1 k && Nat.blt k (2 + news.length)) && res.of fun k=>Nat.ble 1 k && Nat.blt k (2 + news.length)))) = true
def bkOfZ : List SV → Nat
  | []=>0
  | .one (.c (.b (.s k _ _ _))) :: _=>k
  | _ :: r=>bkOfZ r
def CRow.e {P : Program} (S : CRow P) : Ev P:=.dyn (fun o _ _=>isCallB o) fun _ xs ob=>lit (bkOfZ xs) fun i=>lit ob.length fun n =>
  .own S.f S.en (fun β=>(S.args.map (SV.den fun _=>β i)).toArray) [(i,.box S.cs S.t)] n (S.row.renL fun k=>n + (k - 1)) (S.res.ren fun k=>n + (k - 1)) S.news (fun β w h=>by
    have hc:=S.cl
    simp only [Bool.and_eq_true] at hc
    obtain ⟨c1,c2,c3,c4⟩:=hc
    have h1 : (β i).one ∧ w.heap[(β i).b]? = some (.cells (S.cs.map (Lf.den β)).toArray S.t (0,0)):=h _ (List.mem_singleton.2 rfl)
    refine (S.ok (fun _=>β i) w ?_).mono ?_
    · show (β i).one ∧ w.heap[(β i).b]? = some (.cells (S.cs.map (Lf.den fun _=>β i)).toArray S.t (0,0))
      rw [show S.cs.map (Lf.den fun _=>β i) = S.cs.map (Lf.den β) from List.map_congr_left fun x hx=>Lf.den_congr (q:=fun _=>false) (fun k hk=>by cases hk) x (List.all_eq_true.1 c1 x hx)]
      exact h1
    · rintro e w' ⟨g,xs,⟨k1,k2,k3⟩,rfl,k5,k6,k7⟩
      have hlen:=(newHold_get k6).1
      have hall : ∀ k,(Nat.ble 1 k && Nat.blt k (2 + S.news.length)) = true → extE (fun _=>β i) 1 (g :: xs) k = extE β n (g :: xs) (n + (k - 1)):=fun k hk=>by
        rw [Bool.and_eq_true,Nat.ble_eq,Nat.blt_eq] at hk
        have h5 : k - 1 < (g :: xs).length:=by rw [List.length_cons]; omega
        rw [extE_in (List.getElem?_eq_getElem h5)]
        have:=extE_in (β:=fun _=>β i) (n:=1) (List.getElem?_eq_getElem h5)
        rw [show 1 + (k - 1) = k by omega] at this
        exact this
      refine ⟨g,xs,⟨k1,fun x hx c hc=>.inl (k2 x hx c hc),k3⟩,?_,Ob.renL_holds.2 (Ob.holds_cgL hall c3 k5),k6,k7⟩
      rw [SV.den_ren]
      congr 1
      exact SV.den_congr hall _ c4)
end Go.Proofs.YtimfgjcidigbiaaGreat.Y
end
section
namespace Go.Proofs.YtimfgjcidigbiaaGreat.Y
open Go Go.RowKit
set_option maxRecDepth 100000
abbrev fm12 (f g h : RQ) : List Thing:=[ratT f.a,ratT f.b.re,ratT f.b.im,ratT f.c,ratT g.a,ratT g.b.re,ratT g.b.im,ratT g.c,ratT h.a,ratT h.b.re,ratT h.b.im,ratT h.c]
abbrev rw12 (k : Nat) : Ob:=.row [.b (.z k 0),.b (.z (k + 1) 0),.b (.z (k + 2) 0),.b (.z (k + 3) 0),.b (.z (k + 4) 0),.b (.z (k + 5) 0),.b (.z (k + 6) 0),.b (.z (k + 7) 0),.b (.z (k + 8) 0),.b (.z (k + 9) 0),.b (.z (k + 10) 0),.b (.z (k + 11) 0)] FRT 3 4
theorem ptr_row {w : World} {b : Nat} {cur : Array Value} {t : TypeId} {x : Rat} {q : Option Addr} (h : w.heap[b]? = some (.cells cur t (0,0))) (hq : cur[1]? = some (.pointer q)) (k : RatAt w b 0 x) : False:=by
  obtain ⟨A,m,cap,_,h1,_⟩:=k.2.1.open_
  have h2:=cell_lay (o:=1) h hq
  rw [Nat.zero_add,h2] at h1
  cases h1
theorem take_at {cur : Array Value} {l : List Value} {n : Nat} {v : Value} (h : cur.toList.take n = l) (hv : l[1]? = some v) : cur[1]? = some v:=by
  rw [← h,List.getElem?_take] at hv
  split at hv
  · rwa [Array.getElem?_toList] at hv
  · cases hv
theorem open3o_ok {f g h : RQ} (hf : MayC f) (hg : MayC g) (hk : MayC h) (β : Env) (w : World) (hh : (Ob.box (oc3L f g h) 50).holds β w (β 0)) :
    Calls Tryz.prog 152 (oc3A.map (SV.den β)).toArray w fun e u=>∃ (G : Pl) (xs : List Pl),(w.heap.size ≤ G.b ∧ (∀ x ∈ xs,∀ c,x.F c → w.heap.size ≤ c) ∧ ∀ x ∈ xs,¬ x.F G.b) ∧ e = .returned ((SV.tup [.c (.b (.r 1 3)),nI' 0]).den (extE β 1 (G :: xs))) ∧ (rw12 2).holds (extE β 1 (G :: xs)) u G ∧ newHold u (fm12 f g h) xs ∧ Below w.heap.size w u:=by
  refine (sx (P:=Tryz.prog) oc3A [.box (oc3L f g h) 50] (oc3E hf hg hk) [] 1200 (.tup [.c (.b (.r 21 3)),nI' 0]) (oc3O f g h) Tryz.func152 hmA (fun β=>ok_of_maps (oc3_eqs hf hg hk β)) (by kernel_rfl) (by kernel_rfl) β w (fun k o ho=>?_)).mono ?_
  · cases k with
    | zero=>simp only [List.getElem?_cons_zero] at ho; obtain rfl:=Option.some.inj ho; exact hh
    | succ k=>simp at ho
  · rintro e u ⟨β',q',obj,e1,rfl,e2,e4,e5,g0⟩
    have hnew : ∀ y ∈ oc3O f g h,∀ c,(β' y.1).F c → c ≠ (β 0).b → w.heap.size ≤ c:=fun y hy c hc hne=>by
      rcases e4 y hy c hc with h | ⟨i,hi,h⟩
      · exact h
      · obtain rfl : i = 0:=by simp only [List.length_singleton] at hi; omega
        exact absurd ((hh.1.1 c).1 h) hne
    have hu : u.heap[(β 0).b]? = some (.cells ((oc3L f g h).map (Lf.den β)).toArray 50 (0,0)):=by rw [g0.bel.block _ (heap_lt hh.2)]; exact hh.2
    obtain ⟨hone,cur,hcur,hcl,hn,hcm,hsz,htake⟩:=e5 (21,.row [.b (.z 2 0),.b (.z 3 0),.b (.z 4 0),.b (.z 5 0),.b (.z 9 0),.b (.z 10 0),.b (.z 11 0),.b (.z 12 0),.b (.z 16 0),.b (.z 17 0),.b (.z 18 0),.b (.z 19 0)] FRT 3 4) (by simp [oc3O])
    have hbR : w.heap.size ≤ (β' 21).b:=hnew _ (by simp [oc3O]) _ ((hone.1 _).2 rfl) fun e=>by
      rw [e,hu] at hcur
      have:=(Obj.cells.inj (Option.some.inj hcur)).2.1
      exact absurd this (by decide)
    have hrat : ∀ (k : Nat) (x : Rat),(k,(ratT x).ob) ∈ oc3O f g h → PR x u (β' k) ∧ (∀ c,(β' k).F c → w.heap.size ≤ c) ∧ ¬ (β' k).F (β' 21).b:=fun k x hk=>by
      have h : PR x u (β' k):=e5 _ hk
      refine ⟨h,fun c hc=>?_,fun hc=>?_⟩
      · obtain ⟨b,hb,hx⟩:=h
        have ec:=(hb.2 c).1 hc
        subst ec
        refine hnew _ hk c hc fun e=>?_
        rw [e] at hx
        exact str_no_rat hu hx
      · obtain ⟨b,hb,hx⟩:=h
        have ec:=(hb.2 _).1 hc
        rw [← ec] at hx
        exact ptr_row hcur (take_at htake rfl) hx
    obtain ⟨o2,n2,m2⟩:=hrat 2 f.a (by simp [oc3O])
    obtain ⟨o3,n3,m3⟩:=hrat 3 f.b.re (by simp [oc3O])
    obtain ⟨o4,n4,m4⟩:=hrat 4 f.b.im (by simp [oc3O])
    obtain ⟨o5,n5,m5⟩:=hrat 5 f.c (by simp [oc3O])
    obtain ⟨o9,n9,m9⟩:=hrat 9 g.a (by simp [oc3O])
    obtain ⟨o10,n10,m10⟩:=hrat 10 g.b.re (by simp [oc3O])
    obtain ⟨o11,n11,m11⟩:=hrat 11 g.b.im (by simp [oc3O])
    obtain ⟨o12,n12,m12⟩:=hrat 12 g.c (by simp [oc3O])
    obtain ⟨o16,n16,m16⟩:=hrat 16 h.a (by simp [oc3O])
    obtain ⟨o17,n17,m17⟩:=hrat 17 h.b.re (by simp [oc3O])
    obtain ⟨o18,n18,m18⟩:=hrat 18 h.b.im (by simp [oc3O])
    obtain ⟨o19,n19,m19⟩:=hrat 19 h.c (by simp [oc3O])
    refine ⟨β' 21,[β' 2,β' 3,β' 4,β' 5,β' 9,β' 10,β' 11,β' 12,β' 16,β' 17,β' 18,β' 19],⟨hbR,fun x hx=>?_,fun x hx=>?_⟩,rfl,⟨hone,cur,hcur,rfl,hn,hcm,hsz,htake.trans rfl⟩,⟨o2,o3,o4,o5,o9,o10,o11,o12,o16,o17,o18,o19,trivial⟩,g0.bel⟩
    · simp only [List.mem_cons,List.not_mem_nil,or_false] at hx
      rcases hx with rfl | rfl | rfl | rfl | rfl | rfl | rfl | rfl | rfl | rfl | rfl | rfl
      · exact n2
      · exact n3
      · exact n4
      · exact n5
      · exact n9
      · exact n10
      · exact n11
      · exact n12
      · exact n16
      · exact n17
      · exact n18
      · exact n19
    · simp only [List.mem_cons,List.not_mem_nil,or_false] at hx
      rcases hx with rfl | rfl | rfl | rfl | rfl | rfl | rfl | rfl | rfl | rfl | rfl | rfl
      · exact m2
      · exact m3
      · exact m4
      · exact m5
      · exact m9
      · exact m10
      · exact m11
      · exact m12
      · exact m16
      · exact m17
      · exact m18
      · exact m19
noncomputable def sOpen3O {f g h : RQ} (hf : MayC f) (hg : MayC g) (hk : MayC h) : CRow Tryz.prog :=
  ⟨152,Tryz.call152,oc3A,oc3L f g h,50,rw12 2,.tup [.c (.b (.r 1 3)),nI' 0],fm12 f g h,open3o_ok hf hg hk,by kernel_rfl⟩
def acO (f g h : RQ) : List (Nat × Ob):=[(12,.row [.b (.z 16 0),.b (.z 1 0),.b (.z 2 0),.b (.z 18 0),.b (.z 21 0),.b (.z 5 0),.b (.z 6 0),.b (.z 23 0),.b (.z 26 0),.b (.z 9 0),.b (.z 10 0),.b (.z 28 0)] FRT 3 4),(16,(ratT (f.c / Rat.divInt (-2) 1)).ob),(18,(ratT (f.a / Rat.divInt (-2) 1)).ob),(21,(ratT (g.c / Rat.divInt (-2) 1)).ob),(23,(ratT (g.a / Rat.divInt (-2) 1)).ob),(26,(ratT (h.c / Rat.divInt (-2) 1)).ob),(28,(ratT (h.a / Rat.divInt (-2) 1)).ob),(29,(ratT (acQ f g h).a).ob),(30,(ratT (acQ f g h).b.re).ob),(31,(ratT (acQ f g h).b.im).ob),(32,(ratT (acQ f g h).c).ob)]
abbrev acB (f g h : RQ) : List Ob:=(fm12 f g h).map Thing.ob ++ [rw12 0]
section
variable {f g h : RQ} (hf : MayC f) (hg : MayC g) (hk : MayC h)
noncomputable def acqE {f : RQ} (hf : MayC f) : List (Ev Tryz.prog):=[(sMtNum (-2)).e,(sMtQuo (hf.s1024.c.mono (by decide)) (two_sz.mono (by decide)) m2_ne).e,(sMtNum (-2)).e,(sMtQuo (hf.s1024.a.mono (by decide)) (two_sz.mono (by decide)) m2_ne).e]
noncomputable def acE : List (Ev Tryz.prog):=acqE hf ++ acqE hg ++ acqE hk ++ [(sMinors (up_sz hf) (up_sz hg) (up_sz hk)).e]
theorem ac_eqs (β : Env) : (allM Tryz.prog 12 Tryz.f163 [.one (.c (.b (.r 12 3)))] (acB f g h) (acE hf hg hk) [(4,16)] 2000 (.tup [rgC 29,.c (.b (.v (.bool true)))]) (acO f g h) β).map Prod.fst = (allM Tryz.prog 12 Tryz.f163 [.one (.c (.b (.r 12 3)))] (acB f g h) (acE hf hg hk) [(4,16)] 2000 (.tup [rgC 29,.c (.b (.v (.bool true)))]) (acO f g h) β).map Prod.snd:=by kernel_rfl
abbrev acN (f g h : RQ) : List Thing:=[ratT (f.c / Rat.divInt (-2) 1),ratT (f.a / Rat.divInt (-2) 1),ratT (g.c / Rat.divInt (-2) 1),ratT (g.a / Rat.divInt (-2) 1),ratT (h.c / Rat.divInt (-2) 1),ratT (h.a / Rat.divInt (-2) 1),ratT (acQ f g h).a,ratT (acQ f g h).b.re,ratT (acQ f g h).b.im,ratT (acQ f g h).c]
abbrev acb : Ob:=.row [.b (.z 13 0),.b (.z 1 0),.b (.z 2 0),.b (.z 14 0),.b (.z 15 0),.b (.z 5 0),.b (.z 6 0),.b (.z 16 0),.b (.z 17 0),.b (.z 9 0),.b (.z 10 0),.b (.z 18 0)] FRT 3 4
include hf hg hk in
theorem ac_ok (β : Env) (w : World) (hh : ∀ (k : Nat) (t : Thing),(fm12 f g h)[k]? = some t → t.D w (β k)) (ha : (rw12 0).holds β w (β 12)) :
    Calls Tryz.prog 163 (([.one (.c (.b (.r 12 3)))] : List SV).map (SV.den β)).toArray w fun e u=>∃ xs : List Pl,freshS β w 12 xs ∧ e = .returned ((SV.tup [rgC 19,.c (.b (.v (.bool true)))]).den (extE β 13 xs)) ∧ newHold u (acN f g h) xs ∧ acb.holds (extE β 13 xs) u (β 12) ∧ TouchL w u [(β 12).b]:=by
  have hobs : ∀ (k : Nat) (o : Ob),(acB f g h)[k]? = some o → o.holds β w (β k):=fun k o ho=>by
    match k,ho with
    | 0,ho=>obtain rfl:=Option.some.inj ho; exact hh 0 _ rfl
    | 1,ho=>obtain rfl:=Option.some.inj ho; exact hh 1 _ rfl
    | 2,ho=>obtain rfl:=Option.some.inj ho; exact hh 2 _ rfl
    | 3,ho=>obtain rfl:=Option.some.inj ho; exact hh 3 _ rfl
    | 4,ho=>obtain rfl:=Option.some.inj ho; exact hh 4 _ rfl
    | 5,ho=>obtain rfl:=Option.some.inj ho; exact hh 5 _ rfl
    | 6,ho=>obtain rfl:=Option.some.inj ho; exact hh 6 _ rfl
    | 7,ho=>obtain rfl:=Option.some.inj ho; exact hh 7 _ rfl
    | 8,ho=>obtain rfl:=Option.some.inj ho; exact hh 8 _ rfl
    | 9,ho=>obtain rfl:=Option.some.inj ho; exact hh 9 _ rfl
    | 10,ho=>obtain rfl:=Option.some.inj ho; exact hh 10 _ rfl
    | 11,ho=>obtain rfl:=Option.some.inj ho; exact hh 11 _ rfl
    | 12,ho=>obtain rfl:=Option.some.inj ho; exact ha
    | k + 13,ho=>cases ho
  obtain ⟨hone,cur,hcur,hcl,hn,hcm,hsz,htake⟩:=ha
  have hno : ∀ j,j < 12 → ¬ (β j).F (β 12).b:=fun j hj hF=>by
    obtain ⟨t,ht,x,rfl⟩ : ∃ t,(fm12 f g h)[j]? = some t ∧ ∃ x,t = ratT x:=by
      match j,hj with
      | 0,_=>exact ⟨_,rfl,_,rfl⟩
      | 1,_=>exact ⟨_,rfl,_,rfl⟩
      | 2,_=>exact ⟨_,rfl,_,rfl⟩
      | 3,_=>exact ⟨_,rfl,_,rfl⟩
      | 4,_=>exact ⟨_,rfl,_,rfl⟩
      | 5,_=>exact ⟨_,rfl,_,rfl⟩
      | 6,_=>exact ⟨_,rfl,_,rfl⟩
      | 7,_=>exact ⟨_,rfl,_,rfl⟩
      | 8,_=>exact ⟨_,rfl,_,rfl⟩
      | 9,_=>exact ⟨_,rfl,_,rfl⟩
      | 10,_=>exact ⟨_,rfl,_,rfl⟩
      | 11,_=>exact ⟨_,rfl,_,rfl⟩
      | j + 12,hj=>omega
    obtain ⟨b,hb,hx⟩ : PR x w (β j):=hh j _ ht
    have ec:=(hb.2 _).1 hF
    rw [← ec] at hx
    exact ptr_row hcur (take_at htake rfl) hx
  refine (sxM (P:=Tryz.prog) 12 [.one (.c (.b (.r 12 3)))] (acB f g h) (acE hf hg hk) [(4,16)] 2000 (.tup [rgC 29,.c (.b (.v (.bool true)))]) (acO f g h) Tryz.func163 hmA (fun β=>ok_of_maps (ac_eqs hf hg hk β)) (by show 12 ≤ 13; decide) (by kernel_rfl) (by kernel_rfl) (fun k k1 k2=>?_) (fun k k1 k2=>?_) β w hobs (fun k j k1 k2 k3 k4=>?_)).mono ?_
  · obtain rfl : k = 12:=by have : (acB f g h).length = 13:=rfl; omega
    rfl
  · obtain rfl : k = 12:=by have : (acB f g h).length = 13:=rfl; omega
    exact ⟨_,_,List.mem_cons_self ..,rfl⟩
  · have hl : (acB f g h).length = 13:=rfl
    obtain rfl : k = 12:=by omega
    exact hno j (by omega)
  · rintro e u ⟨β',q,e1,rfl,e3,e4,e5,e6⟩
    have h12 : β' 12 = β 12:=e1 12 (by show 12 < 13; decide)
    obtain ⟨ho1,cur',hcur',k3,k4,k5,k6,k7⟩:=e5 _ (List.mem_cons_self ..)
    rw [h12] at ho1 hcur' k4 k5 k6
    have hfr : ∀ p ∈ acO f g h,p.2.isTh = true → ∀ c,(β' p.1).F c → w.heap.size ≤ c ∨ ∃ i,i < 12 ∧ (β i).F c:=fun p hp hth c hc=>(e4 p hp hth c hc).imp And.left id
    have hth : ∀ (k : Nat) (x : Rat),(k,(ratT x).ob) ∈ acO f g h → (ratT x).D u (β' k):=fun k x hk=>e5 _ hk
    have b0 : β' 0 = β 0:=e1 0 (by show 0 < 13; decide)
    have b1 : β' 1 = β 1:=e1 1 (by show 1 < 13; decide)
    have b2 : β' 2 = β 2:=e1 2 (by show 2 < 13; decide)
    have b3 : β' 3 = β 3:=e1 3 (by show 3 < 13; decide)
    have b4 : β' 4 = β 4:=e1 4 (by show 4 < 13; decide)
    have b5 : β' 5 = β 5:=e1 5 (by show 5 < 13; decide)
    have b6 : β' 6 = β 6:=e1 6 (by show 6 < 13; decide)
    have b7 : β' 7 = β 7:=e1 7 (by show 7 < 13; decide)
    have b8 : β' 8 = β 8:=e1 8 (by show 8 < 13; decide)
    have b9 : β' 9 = β 9:=e1 9 (by show 9 < 13; decide)
    have b10 : β' 10 = β 10:=e1 10 (by show 10 < 13; decide)
    have b11 : β' 11 = β 11:=e1 11 (by show 11 < 13; decide)
    refine ⟨[β' 16,β' 18,β' 21,β' 23,β' 26,β' 28,β' 29,β' 30,β' 31,β' 32],fun x hx=>?_,rfl,⟨hth 16 _ (by simp [acO]),hth 18 _ (by simp [acO]),hth 21 _ (by simp [acO]),hth 23 _ (by simp [acO]),hth 26 _ (by simp [acO]),hth 28 _ (by simp [acO]),hth 29 _ (by simp [acO]),hth 30 _ (by simp [acO]),hth 31 _ (by simp [acO]),hth 32 _ (by simp [acO]),trivial⟩,⟨ho1,cur',hcur',rfl,k4,k5,k6,k7.trans ?_⟩,⟨e6.os,e6.tape,e6.output,e6.size,fun k hkk hne=>e6.block k hkk fun hS=>?_⟩⟩
    · simp only [List.mem_cons,List.not_mem_nil,or_false] at hx
      rcases hx with rfl | rfl | rfl | rfl | rfl | rfl | rfl | rfl | rfl | rfl
      · exact hfr (16,(ratT (f.c / Rat.divInt (-2) 1)).ob) (by simp [acO]) rfl
      · exact hfr (18,(ratT (f.a / Rat.divInt (-2) 1)).ob) (by simp [acO]) rfl
      · exact hfr (21,(ratT (g.c / Rat.divInt (-2) 1)).ob) (by simp [acO]) rfl
      · exact hfr (23,(ratT (g.a / Rat.divInt (-2) 1)).ob) (by simp [acO]) rfl
      · exact hfr (26,(ratT (h.c / Rat.divInt (-2) 1)).ob) (by simp [acO]) rfl
      · exact hfr (28,(ratT (h.a / Rat.divInt (-2) 1)).ob) (by simp [acO]) rfl
      · exact hfr (29,(ratT ((acQ f g h).a)).ob) (by simp [acO]) rfl
      · exact hfr (30,(ratT ((acQ f g h).b.re)).ob) (by simp [acO]) rfl
      · exact hfr (31,(ratT ((acQ f g h).b.im)).ob) (by simp [acO]) rfl
      · exact hfr (32,(ratT ((acQ f g h).c)).ob) (by simp [acO]) rfl
    · show _ = _
      simp only [List.map_cons,List.map_nil,Lf.den,Lf0.den,b0,b1,b2,b3,b4,b5,b6,b7,b8,b9,b10,b11]
      rfl
    · obtain ⟨i,i1,i2,rfl⟩:=hS
      have hl : (acB f g h).length = 13:=rfl
      obtain rfl : i = 12:=by omega
      exact hne (List.mem_singleton.2 rfl)
noncomputable def sAcr1 : MSpec Tryz.prog :=
  ⟨163,Tryz.call163,[.one (.c (.b (.r 12 3)))],fm12 f g h,rw12 0,acb,.tup [rgC 19,.c (.b (.v (.bool true)))],acN f g h,ac_ok hf hg hk,by kernel_rfl⟩
def isTp : SV → Bool
  | .tup _=>true
  | _=>false
def mvTp (d t : Nat) (x : SV) : Ev Tryz.prog:=.rd d (.move (.tmp t)) (fun β=>[x.den β]) [] 0 x [] (fun β w _ ρ op ho hx=>by
  refine ⟨[],w,(fun _ h=>by cases h),?_,trivial,Below.refl _ _⟩
  have h1 : ρ (.tmp t) = x.den β:=by simpa [Op.operands] using hx
  rw [extE_nil,← h1]
  unfold execOp
  rw [ho]
  rfl)
def dMvT : Ev Tryz.prog:=.dyn (fun o xs _=>match o.op with
  | .move (.tmp _)=>isTp (xs.getD 0 undefS)
  | _=>false) fun o xs _=>match o.op with
  | .move (.tmp t)=>mvTp (o.dst.getD 0) t (xs.getD 0 undefS)
  | _=>.eqv 0 undef undef rfl
noncomputable def sMadeAc : CSpec Tryz.prog :=
  ⟨139,Tryz.call139,tl3A 163,oc3L f g h,CIT,mxA (acQ f g h),[],fun β w hh =>
    cspec0 [(sOpen3O hf hg hk).e,dMvT,(sAcr1 hf hg hk).e,(sMtCircle ((ac_sz hf hg hk).mono (by decide))).e] [] 800 Tryz.func139 hmA (fun β=>by kernel_rfl) (by kernel_rfl) (by kernel_rfl) β w hh,by kernel_rfl⟩
noncomputable def sMAcross : Spec Tryz.prog :=
  Spec.auto Tryz.call62 [frS f,frS g,frS h] [] (mxA (acQ f g h)) [] [(sMadeAc hf hg hk).e] [] 400 Tryz.func62 hmA (by kernel_rfl) (fun β=>by kernel_rfl)
end
end Go.Proofs.YtimfgjcidigbiaaGreat.Y
end
