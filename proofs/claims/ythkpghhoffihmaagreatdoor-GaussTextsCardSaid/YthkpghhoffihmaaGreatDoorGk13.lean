/- SyC, RRt, RRu, WRd, WRe, RRd. -/
import Derived.Scope
import Derived.Test.YthkpghhoffihmaaGreatDoorGk12
set_option linter.unnecessarySimpa false
set_option linter.unusedVariables false
set_option linter.unusedSimpArgs false
section
namespace Go.Proofs.YthkpghhoffihmaaGreatDoor.Y
open Go Go.RowKit
inductive Stop (P:Program) where
 | ended (f:Cf P)
 | head (c:Code) (ks:List Kf) (f:Cf P)
def Stop.cf {P:Program}:Stop P→Cf P
 | .ended f=>f
 | .head _ _ f=>f
def runP (P:Program) (m0 n:Nat) (Ns:List (Nat × Nat)):Nat→Option Code→List Kf→Cf P→Option (Stop P)
 | 0,_,_,_=>none
 | m+1,oc,ks,f=>match oc with
  | none=>match ks with
   | []=>some (.ended f)
   | .sq c::r=>runP P m0 n Ns m (some c) r f
   | .bl _::r=>runP P m0 n Ns m none r f
   | .lp c::r=>match f.ev with
    | .cut::ev'=>some (.head c r { f with ev:=ev' })
    | _=>runP P m0 n Ns m (some c) (.lp c::r) f
   | .sc::r=>runP P m0 n Ns m none r f
  | some c=>match c with
   | .skip=>runP P m0 n Ns m none ks f
   | .label _=>runP P m0 n Ns m none ks f
   | .region id ops d=>match (bif d then drawS1 P m0 n Ns id ops.toList f else seqS P m0 n ops ops.toList f) with
    | some f'=>runP P m0 n Ns m none ks f'
    | none=>none
   | .seq a b=>runP P m0 n Ns m (some a) (.sq b::ks) f
   | .cond x a b=>match evS idE f.sl x with
    | .bool true=>runP P m0 n Ns m (some a) ks { f with cs:=(fun β=>[(.v (evS β f.sl x),.v (.bool true))])::f.cs }
    | .bool false=>runP P m0 n Ns m (some b) ks { f with cs:=(fun β=>[(.v (evS β f.sl x),.v (.bool false))])::f.cs }
    | _=>none
   | .block id c=>runP P m0 n Ns m (some c) (.bl id::ks) f
   | .loop c=>match f.ev with
    | .cut::ev'=>some (.head c ks { f with ev:=ev' })
    | _=>runP P m0 n Ns m (some c) (.lp c::ks) f
   | .scope c=>runP P m0 n Ns m (some c) (.sc::ks) f
   | .exit id=>match popTo id ks with
    | some r=>runP P m0 n Ns m none r f
    | none=>none
   | .ret=>some (.ended f)
   | _=>none
def Stop.after {P:Program} (Q:Exit→Act→World→Prop) (a:Act) (w:World):Stop P→Prop
 | .ended _=>Q .normal a w∧Q .ret a w
 | .head c ks _=>Rounds P c (post P Q ks) a w
theorem Sync.ev {P:Program} {m0 n:Nat} {B0:Bd} {w0:World} {c:Cf P} {β:Env} {a:Act} {w:World} (h:Sync P m0 n B0 w0 c β a w) (x:List (Ev P)):Sync P m0 n B0 w0 { c with ev:=x } β a w:=⟨h.good,h.q,h.sl,h.of,h.m0,h.defers,h.uq⟩
theorem runP_ok {P:Program} {m0 n:Nat} {Ns:List (Nat × Nat)} (hm:P.follows .mixedOrders=true):∀ (m:Nat) (oc:Option Code) (ks:List Kf) (f:Cf P) (s:Stop P),runP P m0 n Ns m oc ks f=some s→f.full→(∀ x∈f.cs,x∈s.cf.cs)∧s.cf.full ∧
  (s.cf.good→∀ {B0:Bd} {w0:World} {β:Env} {a:Act} {w:World},Sync P m0 n B0 w0 f β a w→∀ (Q:Exit→Act→World→Prop),(∀ β' a' w',(∀ k,k<B0.k→β' k=β k)→Sync P m0 n B0 w0 s.cf β' a' w'→s.after Q a' w')→toShow P Q oc ks a w):=by
 intro m
 induction m with
 | zero=>intro oc ks f f' h; simp only [runP] at h; cases h
 | succ m ih =>
  intro oc ks f f' h hf
  simp only [runP] at h
  cases oc with
  | none =>
   dsimp only at h
   cases ks with
   | nil =>
    obtain rfl:=Option.some.inj h
    exact ⟨fun _ hx=>hx,hf,fun _ B0 w0 β a w s Q hQ=>(hQ β a w (fun _ _=>rfl) s).1⟩
   | cons x r =>
    cases x with
    | sq c=>obtain ⟨i1,i2,i3⟩:=ih _ _ _ _ h hf; exact ⟨i1,i2,fun hg B0 w0 β a w s Q hQ=>i3 hg s Q hQ⟩
    | bl j =>
     obtain ⟨i1,i2,i3⟩:=ih _ _ _ _ h hf
     exact ⟨i1,i2,fun hg B0 w0 β a w s Q hQ=>i3 hg s Q hQ⟩
    | lp c =>
     dsimp only at h
     split at h
     · obtain rfl:=Option.some.inj h
       exact ⟨fun _ hx=>hx,hf,fun _ B0 w0 β a w s Q hQ=>hQ β a w (fun _ _=>rfl) (s.ev _)⟩
     · obtain ⟨i1,i2,i3⟩:=ih _ _ _ _ h hf
       exact ⟨i1,i2,fun hg B0 w0 β a w s Q hQ=>rounds_one (i3 hg s Q hQ)⟩
    | sc=>obtain ⟨i1,i2,i3⟩:=ih _ _ _ _ h hf; exact ⟨i1,i2,fun hg B0 w0 β a w s Q hQ=>i3 hg s Q hQ⟩
  | some c =>
   cases c with
   | skip=>obtain ⟨i1,i2,i3⟩:=ih _ _ _ _ h hf; exact ⟨i1,i2,fun hg B0 w0 β a w s Q hQ=>wp_skip (i3 hg s Q hQ)⟩
   | label l=>obtain ⟨i1,i2,i3⟩:=ih _ _ _ _ h hf; exact ⟨i1,i2,fun hg B0 w0 β a w s Q hQ=>wp_label (i3 hg s Q hQ)⟩
   | region rid ops d =>
    dsimp only at h
    split at h
    · rename_i f1 h1
      cases d with
      | true =>
       simp only [cond_true] at h1
       have hf1:=drawS1_full h1 hf
       obtain ⟨i1,i2,i3⟩:=ih _ _ _ _ h hf1
       obtain ⟨j1,j2⟩:=drawS1_ok hm h1 (fun k hk=>(hf.1 k).1 hk) hf.2
       refine ⟨fun x hx=>i1 x (j1 x hx),i2,fun hg B0 w0 β a w s Q hQ=>?_⟩
       have:=j2 (fun β x hx=>hg β x (i1 x hx)) s (post P Q ks) fun β' a' w' e s'=>i3 hg s' Q fun β2 a2 w2 e2 s2=>hQ β2 a2 w2 (fun k hk=>(e2 k hk).trans (e k hk)) s2
       unfold RegAny at this
       simp only [Array.toArray_toList] at this
       exact wp_region_any hm this
      | false =>
       simp only [cond_false] at h1
       have hf1:=seqS_full h1 hf
       obtain ⟨i1,i2,i3⟩:=ih _ _ _ _ h hf1
       obtain ⟨j1,j2⟩:=seqS_ok h1
       exact ⟨fun x hx=>i1 x (j1 x hx),i2,fun hg B0 w0 β a w s Q hQ=>wp_region_list (j2 (fun β x hx=>hg β x (i1 x hx)) s (post P Q ks) fun β' a' w' e s'=>i3 hg s' Q fun β2 a2 w2 e2 s2=>hQ β2 a2 w2 (fun k hk=>(e2 k hk).trans (e k hk)) s2)⟩
    · cases h
   | seq c d=>obtain ⟨i1,i2,i3⟩:=ih _ _ _ _ h hf; exact ⟨i1,i2,fun hg B0 w0 β a w s Q hQ=>wp_seq (i3 hg s Q hQ)⟩
   | cond x c d =>
    dsimp only at h
    split at h
    · obtain ⟨i1,i2,i3⟩:=ih _ _ _ _ h hf
      refine ⟨fun y hy=>i1 y (List.mem_cons_of_mem _ hy),i2,fun hg B0 w0 β a w s Q hQ=>?_⟩
      obtain ⟨e,_⟩:=Eqs.cons_ok (hg β _ (i1 _ (List.mem_cons_self ..)))
      injection e with e
      exact wp_cond_true (by rw [s.sl.eval]; exact e) (i3 hg (s.cs _) Q hQ)
    · obtain ⟨i1,i2,i3⟩:=ih _ _ _ _ h hf
      refine ⟨fun y hy=>i1 y (List.mem_cons_of_mem _ hy),i2,fun hg B0 w0 β a w s Q hQ=>?_⟩
      obtain ⟨e,_⟩:=Eqs.cons_ok (hg β _ (i1 _ (List.mem_cons_self ..)))
      injection e with e
      exact wp_cond_false (by rw [s.sl.eval]; exact e) (i3 hg (s.cs _) Q hQ)
    · cases h
   | block j c=>obtain ⟨i1,i2,i3⟩:=ih _ _ _ _ h hf; exact ⟨i1,i2,fun hg B0 w0 β a w s Q hQ=>wp_block (i3 hg s Q hQ)⟩
   | loop c =>
    dsimp only at h
    split at h
    · obtain rfl:=Option.some.inj h
      exact ⟨fun _ hx=>hx,hf,fun _ B0 w0 β a w s Q hQ=>rounds_loop (hQ β a w (fun _ _=>rfl) (s.ev _))⟩
    · obtain ⟨i1,i2,i3⟩:=ih _ _ _ _ h hf
      exact ⟨i1,i2,fun hg B0 w0 β a w s Q hQ=>rounds_loop (rounds_one (i3 hg s Q hQ))⟩
   | rangeFunc _ _ _ _=>cases h
   | exit j =>
    dsimp only at h
    split at h
    · rename_i r hr
      obtain ⟨i1,i2,i3⟩:=ih _ _ _ _ h hf
      exact ⟨i1,i2,fun hg B0 w0 β a w s Q hQ=>wp_exit (post_exit hr (i3 hg s Q hQ))⟩
    · cases h
   | scope c=>obtain ⟨i1,i2,i3⟩:=ih _ _ _ _ h hf; exact ⟨i1,i2,fun hg B0 w0 β a w s Q hQ=>wp_scope_straight (i3 hg s Q hQ)⟩
   | goto _=>cases h
   | ret =>
    obtain rfl:=Option.some.inj h
    exact ⟨fun _ hx=>hx,hf,fun _ B0 w0 β a w s Q hQ=>wp_ret (post_ret (hQ β a w (fun _ _=>rfl) s).2 ks)⟩
   | refuse _=>cases h
def loopsOf:Nat→Code→List Kf→List (Code × List Kf)
 | 0,_,_=>[]
 | m+1,c,ks=>match c with
  | .seq a b=>loopsOf m a (.sq b::ks)++loopsOf m b ks
  | .cond _ a b=>loopsOf m a ks++loopsOf m b ks
  | .block id c=>loopsOf m c (.bl id::ks)
  | .loop c=>(c,ks)::loopsOf m c (.lp c::ks)
  | .scope c=>loopsOf m c (.sc::ks)
  | _=>[]
def lpAt (fn:Func) (i:Nat):Code × List Kf:=match fn.body with
 | some c=>(loopsOf 200 c []).getD i (.skip,[])
 | none=>(.skip,[])
def Stop.pos {P:Program}:Stop P→Option (Code × List Kf)
 | .ended _=>none
 | .head c ks _=>some (c,ks)
def mkC (P:Program) (n u:Nat) (sl:List (Nat × SV)) (ob:List Ob) (ev:List (Ev P)):Cf P :=
 ⟨sl++(List.range n).map fun t=>(t,.one (.c (.b (.gh u t)))),fun k=>Nat.blt k ob.length,ob,ev,[]⟩
def tEq1 (β:Env) (σ:List Nat):Env:=fun j=>β (σ.getD j 0)
def opaqB (u t:Nat):SV→Bool
 | .one (.c (.b (.gh k i)))=>Nat.beq k u&&Nat.beq i t
 | _=>false
def layB:Ob→Bool
 | .box _ _=>true
 | .row _ _ _ _=>true
 | .ow _ _=>true
 | _=>false
def deadB:Ob→Bool
 | .dead=>true
 | _=>false
def kindB:Ob→Ob→Bool
 | .th _,.th _=>true
 | .al _ _,.th _=>true
 | .box _ _,.box _ _=>true
 | .row _ _ _ _,.row _ _ _ _=>true
 | .ow _ _,.ow _ _=>true
 | .ow _ _,.th _=>true
 | _,.dead=>true
 | _,_=>false
def wkB (m0 u:Nat) (obS obT:List Ob) (σ:List Nat):Bool :=
 Nat.beq σ.length obT.length&&Nat.ble m0 u&&Nat.blt u obT.length&&(List.range m0).all (fun i=>Nat.beq (σ.getD i 0) i) &&
 (List.range obT.length).all fun j=>match obT[j]? with
  | none=>false
  | some x=>(bif Nat.beq j u then deadB x else match obS[σ.getD j 0]? with
    | none=>false
    | some y=>kindB y x&&x.of (fun k=>Nat.blt k obT.length&&!Nat.beq k u)) &&
   (bif layB x then (!Nat.ble m0 j||Nat.ble m0 (σ.getD j 0))&&(List.range obT.length).all (fun i=>Nat.beq i j||(Nat.beq i u||((match obT[i]? with | some y=>deadB y | none=>false)||!Nat.beq (σ.getD i 0) (σ.getD j 0)))) else true)
def wkOb (β:Env) (σ:List Nat):Ob→Ob→Eqs
 | .box cs t,.box cs' t'=>[(.n t,.n t'),(.v (.agg (cs.map (Lf.den β)).toArray),.v (.agg (cs'.map (Lf.den (tEq1 β σ))).toArray))]
 | .row cs t n sz,.row cs' t' n' sz'=>[(.n t,.n t'),(.n n,.n n'),(.n sz,.n sz'),(.v (.agg (cs.map (Lf.den β)).toArray),.v (.agg (cs'.map (Lf.den (tEq1 β σ))).toArray))]
 | .ow D t,.ow D' t'=>[(.ob (.ow D t),.ob (.ow D' t'))]
 | .ow D _,.th t'=>[(.ob (.th D),.ob (.th t'))]
 | y,.th t=>[(.ob (y.plain (.th t)),.ob (.th t))]
 | _,_=>[]
def wkObs (β:Env) (obS:List Ob) (σ:List Nat):List Ob→Nat→Eqs
 | [],_=>[]
 | x::r,j=>(match obS[σ.getD j 0]? with | some y=>wkOb β σ y x | none=>(match x with | .dead=>[] | _=>Eqs.no))++wkObs β obS σ r (j+1)
def wkSl (β:Env) (u L:Nat) (σ:List Nat) (slS slT:List (Nat × SV)):Nat→Eqs
 | 0=>[]
 | t+1=>(bif opaqB u t (look slT t) then [] else bif (look slT t).of (fun k=>Nat.blt k L&&!Nat.beq k u) then [(.v ((look slS t).den β),.v ((look slT t).den (tEq1 β σ)))] else Eqs.no)++wkSl β u L σ slS slT t
def pieceE (P:Program) (m0 n:Nat) (s:Option (Stop P)) (u:Nat) (sl:List (Nat × SV)) (ob:List Ob) (σ:List Nat) (β:Env):Eqs :=
 match s with
 | some (.head _ _ f)=>(bif wkB m0 u f.ob ob σ&&Nat.beq f.ev.length 0&&sl.all (fun p=>Nat.blt p.1 n) then [] else Eqs.no)++(wkObs β f.ob σ ob 0++(wkSl β u ob.length σ f.sl (mkC P n u sl ob []).sl n++eqsOf β f.cs))
 | _=>Eqs.no
def lastE (P:Program) (fn:Func) (m0 n:Nat) (res:SV) (outs:List (Nat × Ob)) (s:Option (Stop P)) (β:Env):Eqs :=
 match s with
 | some (.ended f)=>fin1 P fn m0 n res outs f β
 | _=>Eqs.no
theorem Eqs.left {a b:Eqs} (h:Eqs.ok (a++b)):Eqs.ok a:=fun p hp=>h p (List.mem_append.2 (.inl hp))
theorem Eqs.right {a b:Eqs} (h:Eqs.ok (a++b)):Eqs.ok b:=fun p hp=>h p (List.mem_append.2 (.inr hp))
theorem bif_ok {b:Bool} (h:Eqs.ok (bif b then [] else Eqs.no)):b=true:=by
 cases b
 · exact (Eqs.no_ok h).elim
 · rfl
theorem look_none:∀ {l:List (Nat × SV)} {t:Nat},(∀ p∈l,p.1≠t)→look l t=undefS
 | [],_,_=>rfl
 | (k,x)::r,t,h=>by
  unfold look
  rw [show Nat.beq k t=false by rw [Bool.eq_false_iff,ne_eq,Nat.beq_eq]; exact h (k,x) (List.mem_cons_self ..),cond_false]
  exact look_none fun p hp=>h p (List.mem_cons_of_mem _ hp)
theorem wkObs_ok {β:Env} {obS:List Ob} {σ:List Nat}:∀ {obT:List Ob} {i:Nat},Eqs.ok (wkObs β obS σ obT i)→∀ (j:Nat) (x y:Ob),obT[j]?=some x→obS[σ.getD (i+j) 0]?=some y→Eqs.ok (wkOb β σ y x)
 | [],_,_,j,x,y,h,_=>by simp at h
 | z::r,i,h,j,x,y,hx,hy=>by
  unfold wkObs at h
  cases j with
  | zero =>
   simp only [List.getElem?_cons_zero] at hx
   obtain rfl:=Option.some.inj hx
   have:=Eqs.left h
   rw [Nat.add_zero] at hy
   rw [hy] at this
   exact this
  | succ j=>exact wkObs_ok (Eqs.right h) j x y (by simpa using hx) (by rw [show i+1+j=i+(j+1) by omega]; exact hy)
theorem opaqB_eq {u t:Nat} {x:SV} (h:opaqB u t x=true):x=.one (.c (.b (.gh u t))):=by
 unfold opaqB at h
 split at h
 · rw [Bool.and_eq_true,Nat.beq_eq,Nat.beq_eq] at h
   obtain ⟨rfl,rfl⟩:=h
   rfl
 · cases h
theorem wkSl_ok {β:Env} {u L:Nat} {σ:List Nat} {slS slT:List (Nat × SV)}:∀ {n:Nat},Eqs.ok (wkSl β u L σ slS slT n)→∀ t,t<n→look slT t=.one (.c (.b (.gh u t)))∨((look slT t).of (fun k=>Nat.blt k L&&!Nat.beq k u)=true∧(look slS t).den β=(look slT t).den (tEq1 β σ))
 | 0,_,t,h=>by omega
 | n+1,h,t,ht=>by
  unfold wkSl at h
  by_cases e:t=n
  · subst e
    have h:=Eqs.left h
    cases ho:opaqB u t (look slT t) with
    | true=>exact .inl (opaqB_eq ho)
    | false =>
     rw [ho,cond_false] at h
     cases hq:(look slT t).of (fun k=>Nat.blt k L&&!Nat.beq k u) with
     | true =>
      rw [hq,cond_true] at h
      obtain ⟨e,_⟩:=Eqs.cons_ok h
      injection e with e
      exact .inr ⟨rfl,e⟩
     | false=>rw [hq,cond_false] at h; exact (Eqs.no_ok h).elim
  · exact wkSl_ok (Eqs.right h) t (by omega)
theorem layB_iff {x:Ob}:layB x=true↔∃ p,x.layOf=some p:=by
 cases x<;>simp [layB,Ob.layOf]
theorem kind_lay {y x:Ob} (h:kindB y x=true) (hx:layB x=true):layB y=true:=by
 cases y<;>cases x<;>first | rfl | (cases h; done) | (cases hx; done)
theorem kind_dead {y x:Ob} (h:kindB y x=true) (hx:x≠.dead):y≠.dead:=by
 cases y<;>cases x<;>first | (intro e; cases e; done) | (cases h; done) | exact absurd rfl hx
theorem wk_hold {β β':Env} {w:World} {g:Pl} {σ:List Nat} {q:Nat→Bool} {y x:Ob} (hk:kindB y x=true) (he:Eqs.ok (wkOb β σ y x)) (hq:x.of q=true) (hβ:∀ k,q k=true→tEq1 β σ k=β' k) (h:y.holds β w g):x.holds β' w g:=by
 have thc:∀ (y:Ob) (t:Thing),Eqs.ok [(Tm.ob (y.plain (.th t)),Tm.ob (.th t))]→y.holds β w g→(Ob.th t).holds β' w g:=fun y t he h=>by
  obtain ⟨e,_⟩:=Eqs.cons_ok he
  injection e with e
  have:=Ob.plain_holds (x:=.th t) h
  rw [e] at this
  exact this
 cases x with
 | dead=>exact trivial
 | al r D=>cases y<;>(cases hk; done)
 | pl n=>cases y<;>(cases hk; done)
 | th t =>
  cases y<;>first | (cases hk; done) | exact thc _ t he h | skip
  obtain ⟨e,_⟩:=Eqs.cons_ok he
  injection e with e
  injection e with e
  subst e
  exact h.2
 | ow D' t' =>
  cases y<;>first | (cases hk; done) | skip
  obtain ⟨e,_⟩:=Eqs.cons_ok he
  injection e with e
  injection e with e e2
  subst e e2
  exact h
 | box cs' t' =>
  cases y<;>first | (cases hk; done) | skip
  rename_i cs t
  obtain ⟨e1,he⟩:=Eqs.cons_ok he
  obtain ⟨e2,_⟩:=Eqs.cons_ok he
  injection e1 with e1
  injection e2 with e2
  injection e2 with e2
  have e2:=congrArg Array.toList e2
  dsimp only at e2
  subst e1
  have hc:cs'.map (Lf.den (tEq1 β σ))=cs'.map (Lf.den β'):=all_congr hq (Lf.den_congr hβ)
  refine ⟨h.1,?_⟩
  rw [← hc,← e2]
  exact h.2
 | row cs' t' n' sz' =>
  cases y<;>first | (cases hk; done) | skip
  rename_i cs t n sz
  obtain ⟨e1,he⟩:=Eqs.cons_ok he
  obtain ⟨e3,he⟩:=Eqs.cons_ok he
  obtain ⟨e4,he⟩:=Eqs.cons_ok he
  obtain ⟨e2,_⟩:=Eqs.cons_ok he
  injection e1 with e1
  injection e3 with e3
  injection e4 with e4
  injection e2 with e2
  injection e2 with e2
  have e2:=congrArg Array.toList e2
  dsimp only at e2
  subst e1 e3 e4
  have hc:cs'.map (Lf.den (tEq1 β σ))=cs'.map (Lf.den β'):=all_congr hq (Lf.den_congr hβ)
  have hl:cs'.length=cs.length:=by
   have:=congrArg List.length e2
   rw [List.length_map,List.length_map] at this
   exact this.symm
  obtain ⟨h0,cur,h1,h2,h3,h4,h5,h6⟩:=h
  refine ⟨h0,cur,h1,by rw [hl]; exact h2,h3,h4,h5,?_⟩
  rw [← hc,← e2]
  exact h6
theorem wk_syncX {P:Program} {m0 n u:Nat} {B0:Bd} {w0:World} {f:Cf P} {sl:List (Nat × SV)} {ob:List Ob} {ev:List (Ev P)} {σ:List Nat} {β:Env} {a:Act} {w:World}
  (hB:wkB m0 u f.ob ob σ=true) (hn:sl.all (fun p=>Nat.blt p.1 n)=true) (hO:Eqs.ok (wkObs β f.ob σ ob 0)) (hS:Eqs.ok (wkSl β u ob.length σ f.sl (mkC P n u sl ob ev).sl n)) (h:Sync P m0 n B0 w0 f β a w) (hBk:B0.k≤m0) :
  ∃ β':Env,(∀ k,k<m0→β' k=β k)∧((∀ j,j≠u→β' j=β (σ.getD j 0))∧β' u=⟨0,fun _=>none,fun _=>0,fun _=>False,fun t=>a.tmps.getD t undef⟩)∧Sync P m0 n B0 w0 (mkC P n u sl ob ev) β' a w:=by
 unfold wkB at hB
 rw [Bool.and_eq_true,Bool.and_eq_true,Bool.and_eq_true,Bool.and_eq_true,Nat.beq_eq,Nat.ble_eq,Nat.blt_eq] at hB
 obtain ⟨⟨⟨⟨hlen,hmu⟩,hul⟩,hid⟩,hall⟩:=hB
 have hσ:∀ i,i<m0→σ.getD i 0=i:=fun i hi=>Nat.eq_of_beq_eq_true (List.all_eq_true.1 hid i (List.mem_range.2 hi))
 obtain ⟨β',hβ⟩:∃ β':Env,β'=fun j=>if j=u then ⟨0,fun _=>none,fun _=>0,fun _=>False,fun t=>a.tmps.getD t undef⟩ else β (σ.getD j 0):=⟨_,rfl⟩
 have hβu:β' u=⟨0,fun _=>none,fun _=>0,fun _=>False,fun t=>a.tmps.getD t undef⟩:=by rw [hβ]; exact if_pos rfl
 have hβo:∀ j,j≠u→β' j=β (σ.getD j 0):=fun j hj=>by rw [hβ]; exact if_neg hj
 have hβm:∀ k,k<m0→β' k=β k:=fun k hk=>by rw [hβo k (by omega),hσ k hk]
 have hq:∀ k,(Nat.blt k ob.length&&!Nat.beq k u)=true→tEq1 β σ k=β' k:=fun k hk=>by
  rw [Bool.and_eq_true,Bool.not_eq_true',Nat.blt_eq] at hk
  rw [hβo k (fun e=>by rw [e,Nat.beq_refl] at hk; cases hk.2)]
  rfl
 have hmono:∀ k,(Nat.blt k ob.length&&!Nat.beq k u)=true→Nat.blt k ob.length=true:=fun k hk=>by rw [Bool.and_eq_true] at hk; exact hk.1
 have hsrc:∀ (j:Nat) (x:Ob),ob[j]?=some x→(j=u→x=.dead)∧(j≠u→∃ y,f.ob[σ.getD j 0]?=some y∧kindB y x=true∧x.of (fun k=>Nat.blt k ob.length&&!Nat.beq k u)=true)∧(layB x=true→(m0≤j→m0≤σ.getD j 0)∧∀ (i:Nat) (y:Ob),ob[i]?=some y→y≠.dead→i≠j→i≠u→σ.getD i 0≠σ.getD j 0):=by
  intro j x hx
  have hj:j<ob.length:=(List.getElem?_eq_some_iff.1 hx).1
  have hc:=List.all_eq_true.1 hall j (List.mem_range.2 hj)
  rw [hx] at hc
  dsimp only at hc
  rw [Bool.and_eq_true] at hc
  obtain ⟨hc1,hc2⟩:=hc
  refine ⟨fun e=>?_,fun e=>?_,fun hl=>?_⟩
  · rw [e,Nat.beq_refl,cond_true] at hc1
    cases x<;>first | rfl | (cases hc1; done)
  · rw [show Nat.beq j u=false by rw [Bool.eq_false_iff,ne_eq,Nat.beq_eq]; exact e,cond_false] at hc1
    split at hc1
    · cases hc1
    · rename_i y hy
      rw [Bool.and_eq_true] at hc1
      exact ⟨y,hy,hc1.1,hc1.2⟩
  · rw [hl,cond_true,Bool.and_eq_true,Bool.or_eq_true] at hc2
    refine ⟨fun hm=>?_,fun i y hy hd hij hiu e=>?_⟩
    · rcases hc2.1 with h1 | h1
      · rw [Bool.not_eq_true',Bool.eq_false_iff,ne_eq,Nat.ble_eq] at h1
        exact absurd hm h1
      · exact Nat.le_of_ble_eq_true h1
    · have hi:i<ob.length:=(List.getElem?_eq_some_iff.1 hy).1
      have h1:=List.all_eq_true.1 hc2.2 i (List.mem_range.2 hi)
      rw [hy,Bool.or_eq_true,Bool.or_eq_true,Bool.or_eq_true,Nat.beq_eq,Nat.beq_eq,e,Nat.beq_refl] at h1
      rcases h1 with h1 | h1 | h1 | h1
      · exact hij h1
      · exact hiu h1
      · refine hd ?_
        cases y<;>first | rfl | (cases h1; done)
      · cases h1
 have hex:∀ {k:Nat} {y:Ob},f.ob[k]?=some y→f.q k=true:=fun {k y} hy=>(h.q k).2 (List.getElem?_eq_some_iff.1 hy).1
 have hob:∀ {k:Nat},Nat.blt k ob.length=true→∃ x,ob[k]?=some x:=fun {k} hk=>⟨_,List.getElem?_eq_getElem (by rw [Nat.blt_eq] at hk; exact hk)⟩
 have hfree:∀ {k:Nat} {x:Ob},ob[k]?=some x→Free (fun k=>Nat.blt k ob.length) (fun k=>ob[k]?) k→layB x=true∧k≠u:=fun {k x} hx hf=>by
  rcases hf with ⟨x',e,p,hp⟩ | ⟨⟨m,e⟩,_⟩
  · dsimp only at e
    rw [hx] at e
    obtain rfl:=Option.some.inj e
    refine ⟨layB_iff.2 ⟨p,hp⟩,fun e=>?_⟩
    rw [(hsrc k x hx).1 e] at hp
    cases hp
  · dsimp only at e
    rw [hx] at e
    obtain rfl:=Option.some.inj e
    exfalso
    by_cases ek:k=u
    · have:=(hsrc k _ hx).1 ek
      cases this
    · obtain ⟨y,_,hk,_⟩:=(hsrc k _ hx).2.1 ek
      cases y<;>(cases hk; done)
 have hlayS:∀ {k:Nat} {x:Ob},ob[k]?=some x→layB x=true→k≠u→f.q (σ.getD k 0)=true∧Free f.q (fun k=>f.ob[k]?) (σ.getD k 0):=fun {k x} hx hl hku=>by
  obtain ⟨y,hy,hk,_⟩:=(hsrc k x hx).2.1 hku
  obtain ⟨p,hp⟩:=layB_iff.1 (kind_lay hk hl)
  exact ⟨hex hy,Free.lay hy hp⟩
 refine ⟨β',hβm,⟨hβo,hβu⟩,⟨⟨h.good.bel,h.good.le,?_,?_,?_,?_,?_,?_,?_,?_,?_⟩,fun k=>by dsimp only [mkC]; rw [Nat.blt_eq],⟨h.sl.1,fun t=>?_⟩,fun t=>?_,?_,h.defers,?_⟩⟩
 ·
  intro k o hk hko
  dsimp only [mkC] at hk hko ⊢
  by_cases e:k=u
  · rw [(hsrc k o hko).1 e]
    exact ⟨trivial,rfl⟩
  · obtain ⟨y,hy,hkd,hof⟩:=(hsrc k o hko).2.1 e
    have hh:=(h.good.hold _ y (hex hy) hy).1
    refine ⟨?_,Ob.of_mono hmono _ hof⟩
    rw [hβo k e]
    refine wk_hold hkd (wkObs_ok hO k o y hko ?_) hof hq hh
    rw [Nat.zero_add]
    exact hy
 ·
  intro k hk c hc
  dsimp only [mkC] at hk
  by_cases e:k=u
  · rw [e,hβu] at hc; exact hc.elim
  · rw [hβo k e] at hc
    obtain ⟨x,hx⟩:=hob hk
    obtain ⟨y,hy,_⟩:=(hsrc k x hx).2.1 e
    exact h.good.lt _ (hex hy) c hc
 ·
  intro k j hk hj hne hm hf hd
  dsimp only [mkC] at hk hj hf hd
  obtain ⟨x,hx⟩:=hob hk
  obtain ⟨z,hz⟩:=hob hj
  obtain ⟨hl,hku⟩:=hfree hx hf
  by_cases e:j=u
  · rw [e,hβu]; exact fun hc=>hc.elim
  · obtain ⟨hs1,hs2⟩:=hlayS hx hl hku
    obtain ⟨hm2,hdis⟩:=(hsrc k x hx).2.2 hl
    obtain ⟨y,hy,hkd,_⟩:=(hsrc j z hz).2.1 e
    have hzd:z≠.dead:=fun e=>hd (by rw [hz,e])
    rw [hβo k hku,hβo j e]
    exact h.good.ne _ _ hs1 (hex hy) (hdis j z hz hzd hne e) (hm2 hm) hs2 (fun e=>kind_dead hkd hzd (Option.some.inj (hy.symm.trans e)))
 ·
  intro k x hk hm hx hmi
  dsimp only [mkC] at hk hx
  obtain ⟨hl,hku⟩:layB x=true∧k≠u:=by
   refine ⟨?_,fun e=>by rw [(hsrc k x hx).1 e] at hmi; cases hmi⟩
   cases x<;>first | (cases hmi; done) | exact layB_iff.2 ⟨_,rfl⟩ | skip
   exfalso
   by_cases ek:k=u
   · have:=(hsrc k _ hx).1 ek
     cases this
   · obtain ⟨y,_,hk,_⟩:=(hsrc k _ hx).2.1 ek
     cases y<;>(cases hk; done)
  obtain ⟨hs1,hs2⟩:=hlayS hx hl hku
  rw [hβo k hku]
  exact h.good.low _ hs1 (((hsrc k x hx).2.2 hl).1 hm) hs2
 ·
  intro k hk hm c hc
  dsimp only [mkC] at hk
  by_cases e:k=u
  · rw [e,hβu] at hc; exact hc.elim
  · rw [hβo k e] at hc
    obtain ⟨x,hx⟩:=hob hk
    obtain ⟨y,hy,_⟩:=(hsrc k x hx).2.1 e
    by_cases hs:m0≤σ.getD k 0
    · exact (h.good.fr _ (hex hy) hs c hc).imp id fun ⟨i,i1,i2⟩=>⟨i,i1,by rw [hβm i i1]; exact i2⟩
    · exact .inr ⟨σ.getD k 0,by omega,by rw [hβm _ (by omega)]; exact hc⟩
 · intro i hi
   dsimp only [mkC]
   rw [Nat.blt_eq]
   omega
 · intro k r D hk ho
   dsimp only [mkC] at ho
   exfalso
   by_cases e:k=u
   · have:=(hsrc k _ ho).1 e
     cases this
   · obtain ⟨y,_,hkd,_⟩:=(hsrc k _ ho).2.1 e
     cases y<;>(cases hkd; done)
 · intro k r D hk ho
   dsimp only [mkC] at ho
   exfalso
   by_cases e:k=u
   · have:=(hsrc k _ ho).1 e
     cases this
   · obtain ⟨y,_,hkd,_⟩:=(hsrc k _ ho).2.1 e
     cases y<;>(cases hkd; done)
 · intro k i hk hi hlt hm hd hp
   dsimp only [mkC] at hp
   obtain ⟨M,hp⟩:=hp
   exfalso
   by_cases e:i=u
   · have:=(hsrc i _ hp).1 e
     cases this
   · obtain ⟨y,_,hkd,_⟩:=(hsrc i _ hp).2.1 e
     cases y<;>(cases hkd; done)
 ·
  by_cases ht:t<n
  · rcases wkSl_ok hS t ht with e | ⟨e1,e2⟩
    · rw [e]
      show _=(β' u).u t
      rw [hβu]
    · rw [h.sl.2 t,e2]
      exact SV.den_congr hq _ e1
  · have hl:look (mkC P n u sl ob ev).sl t=undefS:=look_none fun p hp=>by
     rcases List.mem_append.1 hp with hp | hp
     · have:=List.all_eq_true.1 hn p hp
       rw [Nat.blt_eq] at this
       omega
     · obtain ⟨t',ht',rfl⟩:=List.mem_map.1 hp
       have:=List.mem_range.1 ht'
       dsimp only
       omega
    rw [hl]
    show a.tmps.getD t undef=undef
    rw [Array.getD_eq_getD_getElem?,Array.getElem?_eq_none (by rw [h.sl.1]; omega)]
    rfl
 · by_cases ht:t<n
   · rcases wkSl_ok hS t ht with e | ⟨e1,e2⟩
     · rw [e]
       show Nat.blt u ob.length=true
       rw [Nat.blt_eq]; exact hul
     · exact SV.of_mono hmono _ e1
   · have hl:look (mkC P n u sl ob ev).sl t=undefS:=look_none fun p hp=>by
      rcases List.mem_append.1 hp with hp | hp
      · have:=List.all_eq_true.1 hn p hp
        rw [Nat.blt_eq] at this
        omega
      · obtain ⟨t',ht',rfl⟩:=List.mem_map.1 hp
        have:=List.mem_range.1 ht'
        dsimp only
        omega
     rw [hl]; rfl
 · show m0≤ob.length∧B0.k≤ob.length
   omega
 · intro k j i D D' h1 h2
   exfalso
   by_cases e:k=u
   · have:=(hsrc k _ h1).1 e
     cases this
   · obtain ⟨y,_,hkd,_⟩:=(hsrc k _ h1).2.1 e
     cases y<;>(cases hkd; done)
theorem wk_sync {P:Program} {m0 n u:Nat} {B0:Bd} {w0:World} {f:Cf P} {sl:List (Nat × SV)} {ob:List Ob} {ev:List (Ev P)} {σ:List Nat} {β:Env} {a:Act} {w:World}
  (hB:wkB m0 u f.ob ob σ=true) (hn:sl.all (fun p=>Nat.blt p.1 n)=true) (hO:Eqs.ok (wkObs β f.ob σ ob 0)) (hS:Eqs.ok (wkSl β u ob.length σ f.sl (mkC P n u sl ob ev).sl n)) (h:Sync P m0 n B0 w0 f β a w) (hBk:B0.k≤m0:=by exact Nat.le_refl _) :
  ∃ β':Env,(∀ k,k<m0→β' k=β k)∧Sync P m0 n B0 w0 (mkC P n u sl ob ev) β' a w :=
 let ⟨β',h1,_,h2⟩:=wk_syncX (ev:=ev) hB hn hO hS h hBk
 ⟨β',h1,h2⟩
def HdOk (P:Program) (m0 n:Nat) (N:Nat) (w0:World) (β0:Env) (Q:Exit→Act→World→Prop) (C:Cf P) (p:Code × List Kf):Prop :=
 ∀ (β:Env) (a:Act) (w:World),(∀ k,k<m0→β k=β0 k)→Sync P m0 n (bd0 N m0) w0 C β a w→Rounds P p.1 (post P Q p.2) a w
theorem pieceE_parts {P:Program} {m0 n:Nat} {c:Code} {ks:List Kf} {f:Cf P} {u:Nat} {sl:List (Nat × SV)} {ob:List Ob} {σ:List Nat} (ev:List (Ev P)) (he:∀ β,Eqs.ok (pieceE P m0 n (some (.head c ks f)) u sl ob σ β)) :
  f.good∧∀ {N:Nat} {w0:World} {β:Env} {a:Act} {w:World},Sync P m0 n (bd0 N m0) w0 f β a w→∃ β':Env,(∀ k,k<m0→β' k=β k)∧Sync P m0 n (bd0 N m0) w0 (mkC P n u sl ob ev) β' a w:=by
 refine ⟨fun β x hx=>eqsOf_ok (Eqs.right (Eqs.right (Eqs.right (he β)))) x hx,fun {N w0 β a w} hs=>?_⟩
 have h:=he β
 have h1:=bif_ok (Eqs.left h)
 rw [Bool.and_eq_true,Bool.and_eq_true] at h1
 exact wk_sync h1.1.1 h1.2 (Eqs.left (Eqs.right h)) (Eqs.left (Eqs.right (Eqs.right h))) hs
theorem piece_ok {P:Program} {m0 n:Nat} {N:Nat} {w0:World} {β0:Env} {Q:Exit→Act→World→Prop} {Ns:List (Nat × Nat)} {m:Nat} {C:Cf P} {p p':Code × List Kf} {u:Nat} {sl:List (Nat × SV)} {ob:List Ob} (ev:List (Ev P)) (σ:List Nat) (hm:P.follows .mixedOrders=true)
  (hp:(runP P m0 n Ns m (some p.1) (.lp p.1::p.2) C).bind Stop.pos=some p') (he:∀ β,Eqs.ok (pieceE P m0 n (runP P m0 n Ns m (some p.1) (.lp p.1::p.2) C) u sl ob σ β))
  (hH:HdOk P m0 n N w0 β0 Q (mkC P n u sl ob ev) p'):HdOk P m0 n N w0 β0 Q C p:=by
 intro β a w hβ hs
 cases hr:runP P m0 n Ns m (some p.1) (.lp p.1::p.2) C with
 | none=>rw [hr] at hp; cases hp
 | some s =>
  rw [hr] at hp he
  cases s with
  | ended f=>cases hp
  | head c ks f =>
   obtain rfl:(c,ks)=p':=Option.some.inj hp
   obtain ⟨hg,hw⟩:=pieceE_parts ev he
   obtain ⟨_,_,r3⟩:=runP_ok hm _ _ _ _ _ hr ⟨hs.q,hs.uq⟩
   refine rounds_one (r3 hg hs Q fun β' a' w' e s'=>?_)
   obtain ⟨β'',e2,s2⟩:=hw s'
   exact hH β'' a' w' (fun k hk=>(e2 k hk).trans ((e k hk).trans (hβ k hk))) s2
def Said (P:Program) (fn:Func) (m0:Nat) (res:SV) (outs:List (Nat × Ob)) (β:Env) (w:World) (e:Ending) (w':World):Prop :=
 ∃ (β':Env) (q:Nat→Bool) (obj:Nat→Option Ob),(∀ k,k<m0→β' k=β k)∧e=.returned (res.den β')∧res.of q=true∧(∀ p∈outs,∀ c,(β' p.1).F c→w.heap.size≤c∨∃ i,i<m0∧(β i).F c)∧holdsAll β' w' outs∧Fin w w'
theorem fin1_parts {P:Program} {fn:Func} {m0 n:Nat} {res:SV} {outs:List (Nat × Ob)} {f:Cf P} (h:∀ β,Eqs.ok (fin1 P fn m0 n res outs f β)):f.good∧∀ {β0:Env} {w:World} {β':Env} {a':Act} {w':World},(∀ k,k<m0→β' k=β0 k)→Sync P m0 n (bd0 w.heap.size m0) w f β' a' w' →
  bodyPost P fn (Said P fn m0 res outs β0 w) .normal a' w'∧bodyPost P fn (Said P fn m0 res outs β0 w) .ret a' w':=by
 have fin:∃ r:R1 Value,run1 P m0 false (results fn (tmpsS idE f.sl n)) f.q f.ob []=some r∧res.of f.q=true∧r.ob.length=f.ob.length ∧
   ∀ β,Eqs.ok (chk P β (results fn (tmpsS β f.sl n)) r.tr.reverse (fun u=>[(.v u,.v (res.den β))])++(needEqs f.q f.ob outs++eqsOf β f.cs)):=by
  cases hx:run1 P m0 false (results fn (tmpsS idE f.sl n)) f.q f.ob [] with
  | none=>have:=h idE; unfold fin1 at this; rw [hx] at this; exact (Eqs.no_ok this).elim
  | some r =>
   obtain ⟨ra,rq,rob,rtr⟩:=r
   cases hc:(res.of f.q&&Nat.beq rob.length f.ob.length&&Nat.beq f.ev.length 0) with
   | false=>have:=h idE; unfold fin1 at this; rw [hx] at this; dsimp only at this; rw [hc] at this; exact (Eqs.no_ok this).elim
   | true =>
    have h3:=hc
    simp only [Bool.and_eq_true,Nat.beq_eq] at hc
    refine ⟨_,rfl,hc.1.1,hc.1.2,fun β=>?_⟩
    have:=h β
    unfold fin1 at this
    rw [hx] at this
    dsimp only at this
    rw [h3] at this
    exact this
 obtain ⟨r,f1,f2,f3,f4⟩:=fin
 refine ⟨fun β x hx=>eqsOf_ok (fun p hp=>f4 β p (List.mem_append.2 (.inr (List.mem_append.2 (.inr hp))))) x hx,?_⟩
 intro β0 w β' a' w' e s
 obtain ⟨h5,_,_,tr,h8,h9⟩:=run1_ok _ _ _ _ _ f1 (fun k hk=>(s.q k).1 hk)
 obtain ⟨k1,obj',k2,k3,k4⟩:=h9 _ _ _ _ _ _ s.good (fun k hk=>⟨hk,rfl⟩) (fun k a b=>by omega) s.m0.1
 have h6:=f4 β'
 rw [h8,List.append_nil,List.reverse_reverse] at h6
 have h7:Eqs.ok (chk P β' (results fn (tmpsS β' f.sl n)) tr (fun u=>[(.v u,.v (res.den β'))])):=fun p hp=>h6 p (List.mem_append.2 (.inl hp))
 obtain ⟨v,hv,hv2⟩:=chk_run _ _ _ h7 k1
 obtain ⟨e1,_⟩:=Eqs.cons_ok hv2
 injection e1 with e1
 subst e1
 rw [f3,rangeQ_self] at k4
 have hend:trEnd β' w' tr=w':=by
  obtain ⟨tr2,x1,x2⟩:=run1_still _ _ _ _ _ f1 (fun k hk=>(s.q k).1 hk) f3
  rw [h8,List.append_nil,List.append_nil] at x1
  rw [List.reverse_inj.1 x1]
  exact x2 β' w'
 rw [hend] at hv k4
 rw [← tmps_eq s.sl] at hv
 have hout:∀ p:Nat × Ob,f.q p.1=true→∀ c,(β' p.1).F c→w.heap.size≤c∨∃ i,i<m0∧(β0 i).F c:=fun p hp c hc=>by
  by_cases h0:m0≤p.1
  · exact (s.good.fr p.1 hp h0 c hc).imp (fun a=>a.elim (fun a=>a.elim id False.elim) False.elim) fun ⟨i,i1,i2⟩=>⟨i,i1,by rw [← e i i1]; exact i2⟩
  · exact .inr ⟨p.1,by omega,by rw [← e p.1 (by omega)]; exact hc⟩
 have hneed:Eqs.ok (needEqs f.q f.ob outs):=fun p hp=>f4 β' p (List.mem_append.2 (.inr (List.mem_append.2 (.inl hp))))
 have hres:bodyPost P fn (Said P fn m0 res outs β0 w) .normal a' w':=⟨s.defers,_,hv,β',f.q,obj',e,rfl,f2,fun p hp c hc=>hout p (needs_q _ hneed p hp) c hc,needs_hold s.good (fun k hk=>⟨hk,rfl⟩) _ hneed,⟨k4.bel.below⟩⟩
 exact ⟨hres,hres⟩
theorem last_ok {P:Program} {fn:Func} {m0 n:Nat} {w:World} {β0:Env} {res:SV} {outs:List (Nat × Ob)} {Ns:List (Nat × Nat)} {m:Nat} {C:Cf P} {p:Code × List Kf} (hm:P.follows .mixedOrders=true)
  (he:∀ β,Eqs.ok (lastE P fn m0 n res outs (runP P m0 n Ns m (some p.1) (.lp p.1::p.2) C) β)):HdOk P m0 n w.heap.size w β0 (bodyPost P fn (Said P fn m0 res outs β0 w)) C p:=by
 intro β a w1 hβ hs
 cases hr:runP P m0 n Ns m (some p.1) (.lp p.1::p.2) C with
 | none=>have:=he idE; rw [hr] at this; exact (Eqs.no_ok this).elim
 | some s =>
  rw [hr] at he
  cases s with
  | head c ks f=>exact (Eqs.no_ok (he idE)).elim
  | ended f =>
   obtain ⟨hg,hw⟩:=fin1_parts he
   obtain ⟨_,_,r3⟩:=runP_ok hm _ _ _ _ _ hr ⟨hs.q,hs.uq⟩
   exact rounds_one (r3 hg hs _ fun β' a' w' e s'=>hw (fun k hk=>(e k hk).trans (hβ k hk)) s')
def startP (P:Program) (fn:Func) (args:List SV) (obs:List Ob) (evs:List (Ev P)) (Ns:List (Nat × Nat)) (m:Nat):Option (Stop P):=match fn.body with
 | some c=>runP P obs.length (sizeS fn args) Ns m (some c) [] ⟨startS args 0,fun k=>Nat.blt k obs.length,obs,evs,[]⟩
 | none=>none
theorem sx_cut {P:Program} {f:FuncId} {fn:Func} (args:List SV) (obs:List Ob) (evs ev:List (Ev P)) (Ns:List (Nat × Nat)) (m:Nat) (res:SV) (outs:List (Nat × Ob)) (hf:P.funcs[f]?=some fn) (hm:P.follows .mixedOrders=true) {u:Nat} {sl:List (Nat × SV)} {ob:List Ob} {σ:List Nat} {p':Code × List Kf}
  (hp:(startP P fn args obs evs Ns m).bind Stop.pos=some p') (he:∀ β,Eqs.ok (pieceE P obs.length (sizeS fn args) (startP P fn args obs evs Ns m) u sl ob σ β))
  (hargs:args.all (SV.of fun k=>Nat.blt k obs.length)=true) (hobs:obs.all (fun x=>x.of (fun k=>Nat.blt k obs.length)&&x.own)=true) (β:Env) (w:World) (hh:∀ (k:Nat) (o:Ob),obs[k]?=some o→o.holds β w (β k))
  (hH:HdOk P obs.length (sizeS fn args) w.heap.size w β (bodyPost P fn (Said P fn obs.length res outs β w)) (mkC P (sizeS fn args) u sl ob ev) p') :
  Calls P f (args.map (SV.den β)).toArray w (Said P fn obs.length res outs β w):=by
 have hnal:∀ (k r:Nat) (D:Thing),obs[k]?≠some (.al r D):=fun k r D ho=>by
  have:=List.all_eq_true.1 hobs _ (List.mem_of_getElem? ho)
  simp [Ob.own] at this
 have huq:UniqAl obs:=fun k j i D _ h1 _=>absurd h1 (hnal k i D)
 have hlt:∀ k,k<obs.length→∀ c,(β k).F c→c<w.heap.size:=fun k hk c hc=>by
  have h:=hh k _ (List.getElem?_eq_getElem hk)
  cases hx:obs[k] with
  | box cs t=>rw [hx] at h; rw [(h.1.1 c).1 hc]; exact heap_lt h.2
  | th D=>rw [hx] at h; exact D.st.lt _ _ h c hc
  | al r D=>rw [hx] at h; exact D.st.lt _ _ h c hc
  | pl n=>rw [hx] at h; rw [(h.1.1 c).1 hc]; exact h.2.lt
  | row cs t n sz=>rw [hx] at h; rw [(h.1.1 c).1 hc]; exact heap_lt h.2.choose_spec.1
  | ow D t=>rw [hx] at h; exact D.st.lt _ _ h.2 c hc
  | dead =>
   have:=List.all_eq_true.1 hobs _ (List.mem_of_getElem? (List.getElem?_eq_getElem hk))
   rw [hx] at this
   simp [Ob.own] at this
 cases hb:fn.body with
 | none=>unfold startP at hp; rw [hb] at hp; cases hp
 | some c =>
  have hst:startP P fn args obs evs Ns m=runP P obs.length (sizeS fn args) Ns m (some c) [] ⟨startS args 0,fun k=>Nat.blt k obs.length,obs,evs,[]⟩:=by unfold startP; rw [hb]
  rw [hst] at hp he
  cases hr:runP P obs.length (sizeS fn args) Ns m (some c) [] ⟨startS args 0,fun k=>Nat.blt k obs.length,obs,evs,[]⟩ with
  | none=>rw [hr] at hp; cases hp
  | some s =>
   rw [hr] at hp he
   cases s with
   | ended f=>cases hp
   | head c1 ks1 f1 =>
    obtain rfl:(c1,ks1)=p':=Option.some.inj hp
    obtain ⟨hg,hw⟩:=pieceE_parts ev he
    obtain ⟨_,_,r3⟩:=runP_ok hm _ _ _ _ _ hr ⟨fun k=>by dsimp only; rw [Nat.blt_eq],huq⟩
    refine calls_of_wp hf hb (r3 hg (B0:=bd0 w.heap.size obs.length) (w0:=w) (β:=β) ⟨⟨Keep.refl _ _,Nat.le_refl _,fun k o hk ho=>⟨hh k o ho,(Bool.and_eq_true _ _▸List.all_eq_true.1 hobs o (List.mem_of_getElem? ho)).1⟩,fun k hk=>hlt k (by simpa [Nat.blt_eq] using hk),fun k j hk _ _ hm=>?_,fun k _ hk hm=>?_,fun k hk hm=>?_,fun i hi=>by rw [Nat.blt_eq]; exact hi,fun k r D _ ho=>?_,fun k r D _ ho=>absurd ho (hnal k r D),fun k i _ hi _ hm=>by rw [Nat.blt_eq] at hi; omega⟩,fun k=>by dsimp only; rw [Nat.blt_eq],⟨?_,fun t=>?_⟩,fun t=>?_,⟨Nat.le_refl _,Nat.le_refl _⟩,rfl,huq⟩ _ fun β' a' w' e s=>?_)
    · rw [Nat.blt_eq] at hk; omega
    · rw [Nat.blt_eq] at hk; omega
    · rw [Nat.blt_eq] at hk; omega
    · exact absurd ho (hnal k r D)
    · simp [sizeS]
    · rw [look_start,if_pos (Nat.zero_le _),Nat.sub_zero]
      simp only [Array.getD_eq_getD_getElem?,Array.getElem?_append,List.size_toArray,List.length_map,List.getElem?_toArray,List.getElem?_map]
      split
      · rename_i hlt2
        rw [List.getElem?_eq_getElem hlt2]
        rfl
      · rename_i hge
        rw [List.getElem?_eq_none (by omega)]
        simp [Array.getElem?_replicate]
        split<;>rfl
    · dsimp only
      rw [look_start,if_pos (Nat.zero_le _),Nat.sub_zero]
      cases hx:args[t]? with
      | none=>rfl
      | some x=>exact List.all_eq_true.1 hargs x (List.mem_of_getElem? hx)
    · obtain ⟨β'',e2,s2⟩:=hw s
      exact hH β'' a' w' (fun k hk=>(e2 k hk).trans (e k hk)) s2
end Go.Proofs.YthkpghhoffihmaaGreatDoor.Y
end
section
namespace Go.Proofs.YthkpghhoffihmaaGreatDoor.Y
open Go Go.RowKit
set_option maxRecDepth 100000
abbrev dgL (n:Nat):Nat:=(dig n).length
def WD (n:Nat) (w:World) (g:Pl):Prop:=Words w (.slice (g.v 0) (dgL n) (g.c 0)) (dig n)∧∀ c,¬ g.F c
theorem wd_stable (n:Nat):Stable (WD n) :=
 ⟨fun w g h c hc=>absurd hc (h.2 c),fun w w' g h hb=>⟨h.1.below hb,h.2⟩,fun w w' g b o k m h hs ht _=>⟨h.1.touchN hs ht,h.2⟩⟩
def wdT (n:Nat):Thing:=thing (WD n) (wd_stable n)
abbrev wdPl (A:Option Addr) (c:Nat):Pl:=⟨0,fun _=>A,fun _=>c,fun _=>False,fun _=>undef⟩
abbrev wdS (k n:Nat):SV:=.one (.c (.b (.y k 0 (dgL n))))
theorem wd_of {w:World} {v:Value} {n:Nat} (h:Words w v (dig n)):∃ A c,v=.slice A (dgL n) c∧WD n w (wdPl A c):=by
 obtain ⟨A,c,rfl,_⟩:=h.shape
 exact ⟨A,c,rfl,h,fun _ h=>h⟩
theorem wd_fresh {β:Env} {w:World} {n:Nat} {A:Option Addr} {c:Nat}:freshS β w n [wdPl A c]:=fun x hx c hc=>by
 obtain rfl:=List.mem_singleton.1 hx
 exact hc.elim
section
variable {x y:Nat} (hx:dgL x≤8589934592) (hy:dgL y≤8589934592)
def sRMore:Spec Tryz.prog :=
 ⟨243,Tryz.call243,[wdS 0 x,wdS 1 y],[wdT x,wdT y],wdS 2 (x+y),[wdT (x+y)],fun β w hh=>by
  have h0:WD x w (β 0):=hh 0 _ rfl
  have h1:WD y w (β 1):=hh 1 _ rfl
  refine (rmore_any h0.1 h1.1 hx hy).mono fun e w' ⟨v,he,hv,hb⟩=>?_
  rw [val_dig,val_dig] at hv
  obtain ⟨A,c,rfl,h2⟩:=wd_of hv
  exact ⟨[wdPl A c],wd_fresh,by rw [he]; rfl,⟨h2,trivial⟩,hb⟩,by kernel_rfl⟩
abbrev nilW:SV:=.one (.c (.b (.v (.slice none 0 0))))
end
abbrev WHT:TypeId:=23
abbrev wh0:List Lf:=[.b (.v (.bool false)),.b (.v (.string ⟨#[]⟩))]
abbrev rtI (i:Int):SV:=.one (.c (.b (.v (.int .i64 i))))
theorem hd_ev {P:Program} {m0 n B0:Nat} {w0:World} {β0:Env} {Q:Exit→Act→World→Prop} {u:Nat} {sl:List (Nat × SV)} {ob:List Ob} {ev ev':List (Ev P)} {p:Code × List Kf} (h:HdOk P m0 n B0 w0 β0 Q (mkC P n u sl ob ev) p):HdOk P m0 n B0 w0 β0 Q (mkC P n u sl ob ev') p :=
 fun β a w hβ hs=>h β a w hβ (hs.ev ev)
theorem bits_ex {n:Nat} (hn:1≤n):∃ L,Bits n L:=⟨n.log2+1,Nat.lt_log2_self,fun _=>Nat.log2_self_le (by omega)⟩
def sWToldBig {n:Int} {L:Nat} (hL:Bits n.natAbs L) (hl:131072<L):Spec Tryz.prog :=
 Spec.auto Tryz.call242 [rV 0] [intT n] (.tup [.a w00,nI' 4]) []
  [nBitLen hL,.eqv 6 (.bool (decide ((131072:Int)<(L:Int)))) (.bool true) (by rw [decide_eq_true (by omega)])] [] 400 Tryz.func242 hmA (by kernel_rfl) (fun β=>by kernel_rfl)
theorem told_hh {w:World} {b:Nat} {n:Int} (h:IntAt w b 0 n):∀ (k:Nat) (t:Thing),([intT n]:List Thing)[k]?=some t→t.D w (((fun _=>newPl b):Env) k):=fun k t hk=>by
 match k,hk with
 | 0,hk =>
  obtain rfl:=Option.some.inj hk
  exact ⟨b,(newPl_one b).at1,h⟩
 | k+1,hk=>simp at hk
theorem told_fits {w:World} {b:Nat} {n:Int} (h:IntAt w b 0 n) (hs:(mag n.natAbs).size≤16384) :
  Calls Tryz.prog 242 #[.pointer (some ⟨b,0,none⟩)] w fun e w'=>e=.returned (.tuple #[wholeV n,.int .i64 0])∧Below w.heap.size w w':=by
 obtain ⟨L,hL,hl⟩:=bits_of n.natAbs hs
 have hs':sz n≤16384:=hs
 refine ((sWTold (b:=decide (n<0)) rfl hs' hL hl).ok (fun _=>newPl b) w (told_hh h)).mono fun e w' ⟨xs,_,he,hx,hb⟩=>⟨?_,hb⟩
 rw [he]
 rfl
theorem told_over {w:World} {b:Nat} {n:Int} (h:IntAt w b 0 n) (hs:¬ (mag n.natAbs).size≤16384) :
  Calls Tryz.prog 242 #[.pointer (some ⟨b,0,none⟩)] w fun e w'=>e=.returned (.tuple #[.agg #[.bool false,.string ⟨#[]⟩],.int .i64 4])∧Below w.heap.size w w':=by
 obtain ⟨e,he⟩:∃ e:Nat,e=16384:=⟨_,rfl⟩
 rw [← he] at hs
 have h1:¬ n.natAbs<256^e:=fun k=>hs (mag_size_le.2 k)
 rw [show (256:Nat)^e=2^(8*e) by rw [show (256:Nat)=2^8 from rfl,← Nat.pow_mul]] at h1
 have hp:=Nat.two_pow_pos (8*e)
 have hn1:1≤n.natAbs:=Nat.le_trans hp (Nat.le_of_not_lt h1)
 obtain ⟨L,hL⟩:=bits_ex hn1
 have hl:131072<L:=by
  rcases Nat.lt_or_ge (8*e) L with h | h
  · omega
  · exact absurd (Nat.lt_of_lt_of_le hL.1 (Nat.pow_le_pow_right (by decide) h)) h1
 refine ((sWToldBig hL hl).ok (fun _=>newPl b) w (told_hh h)).mono fun e w' ⟨xs,_,he,hx,hb⟩=>⟨?_,hb⟩
 rw [he]
 rfl
end Go.Proofs.YthkpghhoffihmaaGreatDoor.Y
end
section
namespace Go.Proofs.YthkpghhoffihmaaGreatDoor
open Go Go.RowKit
theorem BoxAt.put2 {w:World} {g:Nat} {c0 c1:Value} {T:TypeId} (h:BoxAt w g #[c0,c1] T) (u v:Value):BoxAt ((w.setCell ⟨g,0,none⟩ u).setCell ⟨g,1,none⟩ v) g #[u,v] T:=(h.set 0 u).set 1 v
noncomputable def wrK (xs:List Nat):Int:=open Classical in if 40000<xs.length then 3 else if Rd xs then 4 else 120
def NoK (xs:List Nat) (k:Int):Prop:=(¬ (Rd xs∧xs.length≤40000∧(mag (rdN xs).natAbs).size≤16384))∧k=wrK xs∧k≠0
theorem wrk_no {xs:List Nat} (h:¬ Rd xs) (hl:xs.length≤40000):NoK xs 120:=⟨fun k=>h k.1,by unfold wrK; rw [if_neg (by omega),if_neg h],by decide⟩
theorem wrk_big {xs:List Nat} (h:Rd xs) (hl:xs.length≤40000) (hf:¬ (mag (rdN xs).natAbs).size≤16384):NoK xs 4:=⟨fun k=>hf k.2.2,by unfold wrK; rw [if_neg (by omega),if_pos h],by decide⟩
theorem wrk_long {xs:List Nat} (hl:40000<xs.length):NoK xs 3:=⟨fun k=>by have:=k.2.1; omega,by unfold wrK; rw [if_pos hl],by decide⟩
def WRdAns (xs:List Nat) (v:Value) (k:Int):Prop :=
 (Rd xs∧xs.length≤40000∧(mag (rdN xs).natAbs).size≤16384∧v=wholeV (rdN xs)∧k=0)∨((¬ (Rd xs∧xs.length≤40000∧(mag (rdN xs).natAbs).size≤16384))∧v=.agg #[.bool false,.string ⟨#[]⟩]∧k=wrK xs∧k≠0)
set_option maxRecDepth 100000 in
set_option maxHeartbeats 3200000 in
theorem WRead_any {w:World} {xs:List Nat} (h8:B8 xs) :
  Calls Tryz.prog 109 #[.string (strN xs)] w fun e w'=>∃ v k,e=.returned (.tuple #[v,.int .i64 k])∧WRdAns xs v k∧Below w.heap.size w w':=by
 obtain ⟨M,hM⟩:∃ M,M=xs.length:=⟨_,rfl⟩
 obtain ⟨S,hS⟩:∃ S,S=strN xs:=⟨_,rfl⟩
 have hsz:(S.size:Int)=(M:Int):=by rw [hS,strN_size,hM]
 rw [← hS]
 by_cases hlong:40000<M
 · have HNO:Hid (NoK xs 3):=wrk_long (by omega)
   clear hS hM
   have HB0:=Lib.hid (below_new w (.cells #[.bool false,.string ⟨#[]⟩] 23))
   have HX0:=Lib.hid (BoxAt.new w #[.bool false,.string ⟨#[]⟩] 23)
   go_enter Tryz.func109,Tryz.ntmps109
   go_wp2
   refine wp_scope_straight ?_
   go_wp2
   simp only [Exit.noGoto]
   have hk:=HX0.out.put2 (.bool false) (.string ⟨#[]⟩)
   have k0:=hk.cell 0 _ rfl
   have k1:=hk.cell 1 _ rfl
   exact bodyPost_ret (v:=.tuple #[.agg #[.bool false,.string ⟨#[]⟩],.int .i64 3]) (by simp [results,Tryz.results109,go_sem,k0,k1]) rfl ⟨_,_,rfl,.inr ⟨HNO.out.1,rfl,HNO.out.2⟩,by first | exact HB0.out | exact below_put2 HB0.out (Nat.le_refl _) _ _⟩
 have hlen:=Nat.le_of_not_lt hlong
 clear hlong
 have HM:=Lib.hid hM
 have HS:=Lib.hid hS
 have H8:=Lib.hid h8
 have hchr:∀ (i:Nat) (h:i<S.size),(S[i]'h).toNat=xs.getD i 0:=fun i h=>by
  have hS:=HS.out
  subst hS
  exact strN_at h8 h
 have HCH:=Lib.hid hchr
 have HNR:Hid (∀ j,rdF xs≤j→j<M→rdBad xs j→¬ Rd xs):=fun j h1 h2 h3 h=>((rd_loop xs).1 h).2 j h1 (by rw [← hM]; exact h2) h3
 have HL:Hid (xs.length≤40000):=by
  rw [Hid,← hM]
  exact hlen
 clear hS hM h8 hchr
 have hcase:(xs=[]∧M=0)∨(rdF xs=1∧0<M∧xs.getD 0 0=45)∨(rdF xs=0∧0<M∧xs.getD 0 0≠45):=by
  have hM:=HM.out
  cases xs with
  | nil=>exact .inl ⟨rfl,hM⟩
  | cons x r =>
   rw [List.length_cons] at hM
   by_cases h:x=45
   · exact .inr (.inl ⟨if_pos (by simp [h]),by omega,h⟩)
   · exact .inr (.inr ⟨if_neg (by simp [h]),by omega,h⟩)
 have HB0:=Lib.hid (below_new w (.cells #[.bool false,.string ⟨#[]⟩] 23))
 have HX0:=Lib.hid (BoxAt.new w #[.bool false,.string ⟨#[]⟩] 23)
 rcases hcase with ⟨hxs,hM0⟩ | ⟨hF,hM0,hx0⟩ | ⟨hF,hM0,hx0⟩
 rotate_left
 · have hne:¬ S.toList=[]:=by
    rw [Lib.toList_data,HS.out,strN_data]
    intro h
    have:=HM.out
    rw [List.map_eq_nil_iff.1 h] at this
    simp at this
    omega
   have hne2:S.toList.isEmpty=false:=by
    cases hq:S.toList with
    | nil=>exact absurd hq hne
    | cons x r=>rfl
   have hidx:0<S.size:=by omega
   have hch0:(S[0]'hidx).toNat=45:=by rw [HCH.out 0 hidx,hx0]
   have HF:=Lib.hid hF
   clear hx0 hF
   go_enter Tryz.func109,Tryz.ntmps109
   go_wp2
   refine wp_scope_straight ?_
   go_wp2
   refine wp_label ?_
   go_wp2
   go_loopw [4] (fun av wr=>∃ j:Nat,1≤j∧j≤M∧av=.int .i64 (j:Int)∧Hid (∀ i,1≤i→i<j→¬ rdBad xs i)∧Hid (BoxAt wr w.heap.size #[.bool false,.string ⟨#[]⟩] 23)∧Hid (Below w.heap.size w wr)) (fun av _=>M-(intOf av).toNat)
   case atStart=>exact ⟨1,by omega,by omega,rfl,fun i h1 h2=>absurd h1 (by omega),HX0,HB0⟩
   case round =>
    obtain ⟨j,hFj,hj,rfl,HOKJ,HX,HB⟩:=hrel
    clear HX0 HB0
    have hsw:=HX.out.lt
    by_cases hjm:j<M
    · obtain ⟨x,hx⟩:∃ x,x=xs.getD j 0:=⟨_,rfl⟩
      have hji:j<S.size:=by omega
      have hc:(S[j]'hji).toNat=x:=by rw [HCH.out j hji,hx]
      have hx8:x<256:=by rw [hx]; exact H8.out.getD j
      have HXX:=Lib.hid hx
      clear hx
      have hcs:(x<48∨58≤x∨(x=48∧j=1∧1<M))∨((x=48∧j≠1)∨(x=48∧M≤1)∨(49≤x∧x<58)):=by omega
      rcases hcs with hbad | hgood
      · have HNO:Hid (NoK xs 120):=wrk_no (HNR.out j (by rw [HF.out]; exact hFj) hjm (by
         unfold rdBad Dg
         rw [← HXX.out,HF.out,← HM.out]
         omega)) HL.out
        rcases hbad with hb1 | hb1 | ⟨rfl,hb2,hb3⟩
        · have hS:=HS.out
          subst hS
          go_wp2_with fail
          refine (SetString_any (xs:=xs) (IntAt.new _).slot H8.out (by rw [← HM.out]; omega)).mono ?_
          rintro e w' h7
          rcases h7 with ⟨hok,rfl,hi7,ht⟩ | ⟨hno,rfl,hb⟩
          · have hbw:Below wr.heap.size wr w':=(below_new wr _).trans (ht.below (Nat.le_refl _) (by simp))
            have HX7:=Lib.hid (HX.out.on hbw)
            have HB7:=Lib.hid (HB.out.trans (hbw.mono HB.out.size))
            have hp0:=HX7.out.cell 0 _ rfl
            have hp1:=HX7.out.cell 1 _ rfl
            have hf:=HX7.out.frozen
            clear hi7 ht hbw
            go_wp2
            try simp only [Exit.noGoto]
            have hk:=HX7.out.put2 (.bool false) (.string ⟨#[]⟩)
            have k0:=hk.cell 0 _ rfl
            have k1:=hk.cell 1 _ rfl
            exact bodyPost_ret (v:=.tuple #[.agg #[.bool false,.string ⟨#[]⟩],.int .i64 120]) (by simp [results,Tryz.results109,go_sem,k0,k1]) rfl ⟨_,_,rfl,.inr ⟨HNO.out.1,rfl,HNO.out.2⟩,by first | exact below_put2 HB7.out (Nat.le_refl _) _ _ | exact HB7.out⟩
          · have hbw:Below wr.heap.size wr w':=(below_new wr _).trans (hb.mono (by simp))
            have HX7:=Lib.hid (HX.out.on hbw)
            have HB7:=Lib.hid (HB.out.trans (hbw.mono HB.out.size))
            have hp0:=HX7.out.cell 0 _ rfl
            have hp1:=HX7.out.cell 1 _ rfl
            have hf:=HX7.out.frozen
            clear hb hbw
            go_wp2
            try simp only [Exit.noGoto]
            have hk:=HX7.out.put2 (.bool false) (.string ⟨#[]⟩)
            have k0:=hk.cell 0 _ rfl
            have k1:=hk.cell 1 _ rfl
            exact bodyPost_ret (v:=.tuple #[.agg #[.bool false,.string ⟨#[]⟩],.int .i64 120]) (by simp [results,Tryz.results109,go_sem,k0,k1]) rfl ⟨_,_,rfl,.inr ⟨HNO.out.1,rfl,HNO.out.2⟩,by first | exact below_put2 HB7.out (Nat.le_refl _) _ _ | exact HB7.out⟩
        · have hS:=HS.out
          subst hS
          go_wp2_with fail
          refine (SetString_any (xs:=xs) (IntAt.new _).slot H8.out (by rw [← HM.out]; omega)).mono ?_
          rintro e w' h7
          rcases h7 with ⟨hok,rfl,hi7,ht⟩ | ⟨hno,rfl,hb⟩
          · have hbw:Below wr.heap.size wr w':=(below_new wr _).trans (ht.below (Nat.le_refl _) (by simp))
            have HX7:=Lib.hid (HX.out.on hbw)
            have HB7:=Lib.hid (HB.out.trans (hbw.mono HB.out.size))
            have hp0:=HX7.out.cell 0 _ rfl
            have hp1:=HX7.out.cell 1 _ rfl
            have hf:=HX7.out.frozen
            clear hi7 ht hbw
            go_wp2
            try simp only [Exit.noGoto]
            have hk:=HX7.out.put2 (.bool false) (.string ⟨#[]⟩)
            have k0:=hk.cell 0 _ rfl
            have k1:=hk.cell 1 _ rfl
            exact bodyPost_ret (v:=.tuple #[.agg #[.bool false,.string ⟨#[]⟩],.int .i64 120]) (by simp [results,Tryz.results109,go_sem,k0,k1]) rfl ⟨_,_,rfl,.inr ⟨HNO.out.1,rfl,HNO.out.2⟩,by first | exact below_put2 HB7.out (Nat.le_refl _) _ _ | exact HB7.out⟩
          · have hbw:Below wr.heap.size wr w':=(below_new wr _).trans (hb.mono (by simp))
            have HX7:=Lib.hid (HX.out.on hbw)
            have HB7:=Lib.hid (HB.out.trans (hbw.mono HB.out.size))
            have hp0:=HX7.out.cell 0 _ rfl
            have hp1:=HX7.out.cell 1 _ rfl
            have hf:=HX7.out.frozen
            clear hb hbw
            go_wp2
            try simp only [Exit.noGoto]
            have hk:=HX7.out.put2 (.bool false) (.string ⟨#[]⟩)
            have k0:=hk.cell 0 _ rfl
            have k1:=hk.cell 1 _ rfl
            exact bodyPost_ret (v:=.tuple #[.agg #[.bool false,.string ⟨#[]⟩],.int .i64 120]) (by simp [results,Tryz.results109,go_sem,k0,k1]) rfl ⟨_,_,rfl,.inr ⟨HNO.out.1,rfl,HNO.out.2⟩,by first | exact below_put2 HB7.out (Nat.le_refl _) _ _ | exact HB7.out⟩
        · have hjF:((j:Int)==1)=true:=beq_iff_eq.2 (by omega)
          clear hb2
          have hS:=HS.out
          subst hS
          go_wp2_with fail
          refine (SetString_any (xs:=xs) (IntAt.new _).slot H8.out (by rw [← HM.out]; omega)).mono ?_
          rintro e w' h7
          rcases h7 with ⟨hok,rfl,hi7,ht⟩ | ⟨hno,rfl,hb⟩
          · have hbw:Below wr.heap.size wr w':=(below_new wr _).trans (ht.below (Nat.le_refl _) (by simp))
            have HX7:=Lib.hid (HX.out.on hbw)
            have HB7:=Lib.hid (HB.out.trans (hbw.mono HB.out.size))
            have hp0:=HX7.out.cell 0 _ rfl
            have hp1:=HX7.out.cell 1 _ rfl
            have hf:=HX7.out.frozen
            clear hi7 ht hbw
            go_wp2
            try simp only [Exit.noGoto]
            have hk:=HX7.out.put2 (.bool false) (.string ⟨#[]⟩)
            have k0:=hk.cell 0 _ rfl
            have k1:=hk.cell 1 _ rfl
            exact bodyPost_ret (v:=.tuple #[.agg #[.bool false,.string ⟨#[]⟩],.int .i64 120]) (by simp [results,Tryz.results109,go_sem,k0,k1]) rfl ⟨_,_,rfl,.inr ⟨HNO.out.1,rfl,HNO.out.2⟩,by first | exact below_put2 HB7.out (Nat.le_refl _) _ _ | exact HB7.out⟩
          · have hbw:Below wr.heap.size wr w':=(below_new wr _).trans (hb.mono (by simp))
            have HX7:=Lib.hid (HX.out.on hbw)
            have HB7:=Lib.hid (HB.out.trans (hbw.mono HB.out.size))
            have hp0:=HX7.out.cell 0 _ rfl
            have hp1:=HX7.out.cell 1 _ rfl
            have hf:=HX7.out.frozen
            clear hb hbw
            go_wp2
            try simp only [Exit.noGoto]
            have hk:=HX7.out.put2 (.bool false) (.string ⟨#[]⟩)
            have k0:=hk.cell 0 _ rfl
            have k1:=hk.cell 1 _ rfl
            exact bodyPost_ret (v:=.tuple #[.agg #[.bool false,.string ⟨#[]⟩],.int .i64 120]) (by simp [results,Tryz.results109,go_sem,k0,k1]) rfl ⟨_,_,rfl,.inr ⟨HNO.out.1,rfl,HNO.out.2⟩,by first | exact below_put2 HB7.out (Nat.le_refl _) _ _ | exact HB7.out⟩
      · have HN2:Hid (∀ i,1≤i→i<j+1→¬ rdBad xs i):=fun i h1 h2=>by
         by_cases e:i=j
         · subst e
           unfold rdBad Dg
           rw [← HXX.out,HF.out,← HM.out]
           omega
         · exact HOKJ.out i h1 (by omega)
        rcases hgood with ⟨rfl,hb2⟩ | ⟨rfl,hb2⟩ | ⟨hb1,hb2⟩
        · have hjF:((j:Int)==1)=false:=beq_eq_false_iff_ne.2 (by omega)
          go_wp2
          go_roundw
          case rel=>exact ⟨j+1,by omega,by omega,by go_num,HN2,HX,HB⟩
          case measure=>simp [intOf]; omega
        · first
          | (exfalso; omega)
          | (have hjF:((j:Int)==0)=true:=beq_iff_eq.2 (by omega)
             go_wp2
             all_goals first | (exfalso; omega) | skip
             go_roundw
             case rel=>exact ⟨j+1,by omega,by omega,by go_num,HN2,HX,HB⟩
             case measure=>simp [intOf]; omega)
        · have hx48:((x:Int)==48)=false:=beq_eq_false_iff_ne.2 (by omega)
          go_wp2
          go_roundw
          case rel=>exact ⟨j+1,by omega,by omega,by go_num,HN2,HX,HB⟩
          case measure=>simp [intOf]; omega
    · obtain rfl:j=M:=by omega
      by_cases hFM:1<j
      · have HR:Hid (Rd xs):=(rd_loop xs).2 ⟨by rw [HF.out,← HM.out]; exact hFM,fun i h1 h2=>HOKJ.out i (by rw [HF.out] at h1; exact h1) (by rw [HM.out]; exact h2)⟩
        have HV:Hid (sg (decide (xs.head?=some 45)) (dval (dgS xs))=rdN xs):=by
         rw [Hid,(rd_dgS HR.out).1,rdN_ref]
         by_cases h:xs.head?=some 45
         · rw [if_pos h,decide_eq_true h]
           rfl
         · rw [if_neg h,decide_eq_false h]
           rfl
        have hjF:((j:Int)==1)=false:=beq_eq_false_iff_ne.2 (by omega)
        have hS:=HS.out
        subst hS
        go_wp2_with fail
        refine (SetString_any (xs:=xs) (IntAt.new _).slot H8.out (by rw [← HM.out]; omega)).mono ?_
        rintro e w' h7
        rcases h7 with ⟨hok,rfl,hi7,ht⟩ | ⟨hno,rfl,hb⟩
        · have hbw:Below wr.heap.size wr w':=(below_new wr _).trans (ht.below (Nat.le_refl _) (by simp))
          have HX7:=Lib.hid (HX.out.on hbw)
          have HB7:=Lib.hid (HB.out.trans (hbw.mono HB.out.size))
          have hp0:=HX7.out.cell 0 _ rfl
          have hp1:=HX7.out.cell 1 _ rfl
          have hf:=HX7.out.frozen
          have HI7:Hid (IntAt w' wr.heap.size 0 (rdN xs)):=by
           rw [Hid,← HV.out]
           exact hi7
          clear hi7 ht hbw hp0 hp1 hf
          by_cases hfit:(mag (rdN xs).natAbs).size≤16384
          · have HYES:Hid (Rd xs∧xs.length≤40000∧(mag (rdN xs).natAbs).size≤16384):=⟨HR.out,HL.out,hfit⟩
            go_wp2_with fail
            refine (Y.told_fits HI7.out hfit).mono ?_
            rintro e w8 ⟨rfl,hb8⟩
            have HX8:=Lib.hid (HX7.out.on hb8)
            have HB8:=Lib.hid (HB7.out.trans (hb8.mono HB7.out.size))
            have hp0:=HX8.out.cell 0 _ rfl
            have hp1:=HX8.out.cell 1 _ rfl
            have hf:=HX8.out.frozen
            have hwv:wholeV (rdN xs)=.agg #[.bool (decide (rdN xs<0)),.string (mag (rdN xs).natAbs)]:=rfl
            obtain ⟨bb,hbb⟩:∃ bb,bb=decide (rdN xs<0):=⟨_,rfl⟩
            obtain ⟨ss,hss⟩:∃ ss,ss=mag (rdN xs).natAbs:=⟨_,rfl⟩
            have HW:Hid (wholeV (rdN xs)=.agg #[.bool bb,.string ss]):=by rw [hbb,hss]; exact hwv
            rw [HW.out]
            clear hb8 hwv hbb hss
            go_wp2
            try simp only [Exit.noGoto]
            have hk:=HX8.out.put2 (.bool bb) (.string ss)
            have k0:=hk.cell 0 _ rfl
            have k1:=hk.cell 1 _ rfl
            exact bodyPost_ret (v:=.tuple #[.agg #[.bool bb,.string ss],.int .i64 0]) (by simp [results,Tryz.results109,go_sem,k0,k1]) rfl ⟨_,_,rfl,.inl ⟨HYES.out.1,HYES.out.2.1,HYES.out.2.2,HW.out.symm,rfl⟩,below_put2 HB8.out (Nat.le_refl _) _ _⟩
          · have HNO:Hid (NoK xs 4):=wrk_big HR.out HL.out hfit
            go_wp2_with fail
            refine (Y.told_over HI7.out hfit).mono ?_
            rintro e w8 ⟨rfl,hb8⟩
            have HX8:=Lib.hid (HX7.out.on hb8)
            have HB8:=Lib.hid (HB7.out.trans (hb8.mono HB7.out.size))
            clear HX7 HB7
            have HX7:=HX8
            have HB7:=HB8
            have hp0:=HX8.out.cell 0 _ rfl
            have hp1:=HX8.out.cell 1 _ rfl
            have hf:=HX8.out.frozen
            clear hb8
            go_wp2
            try simp only [Exit.noGoto]
            have hk:=HX7.out.put2 (.bool false) (.string ⟨#[]⟩)
            have k0:=hk.cell 0 _ rfl
            have k1:=hk.cell 1 _ rfl
            exact bodyPost_ret (v:=.tuple #[.agg #[.bool false,.string ⟨#[]⟩],.int .i64 4]) (by simp [results,Tryz.results109,go_sem,k0,k1]) rfl ⟨_,_,rfl,.inr ⟨HNO.out.1,rfl,HNO.out.2⟩,by first | exact below_put2 HB7.out (Nat.le_refl _) _ _ | exact HB7.out⟩
        · exact absurd (rd_dgS HR.out).2 hno
      · have HNO:Hid (NoK xs 120):=wrk_no (fun h=>by
         have:=((rd_loop xs).1 h).1
         rw [HF.out,← HM.out] at this
         exact hFM this) HL.out
        have hjF:((j:Int)==1)=true:=beq_iff_eq.2 (by omega)
        have hS:=HS.out
        subst hS
        go_wp2_with fail
        refine (SetString_any (xs:=xs) (IntAt.new _).slot H8.out (by rw [← HM.out]; omega)).mono ?_
        rintro e w' h7
        rcases h7 with ⟨hok,rfl,hi7,ht⟩ | ⟨hno,rfl,hb⟩
        · have hbw:Below wr.heap.size wr w':=(below_new wr _).trans (ht.below (Nat.le_refl _) (by simp))
          have HX7:=Lib.hid (HX.out.on hbw)
          have HB7:=Lib.hid (HB.out.trans (hbw.mono HB.out.size))
          have hp0:=HX7.out.cell 0 _ rfl
          have hp1:=HX7.out.cell 1 _ rfl
          have hf:=HX7.out.frozen
          clear hi7 ht hbw
          go_wp2
          try simp only [Exit.noGoto]
          have hk:=HX7.out.put2 (.bool false) (.string ⟨#[]⟩)
          have k0:=hk.cell 0 _ rfl
          have k1:=hk.cell 1 _ rfl
          exact bodyPost_ret (v:=.tuple #[.agg #[.bool false,.string ⟨#[]⟩],.int .i64 120]) (by simp [results,Tryz.results109,go_sem,k0,k1]) rfl ⟨_,_,rfl,.inr ⟨HNO.out.1,rfl,HNO.out.2⟩,by first | exact below_put2 HB7.out (Nat.le_refl _) _ _ | exact HB7.out⟩
        · have hbw:Below wr.heap.size wr w':=(below_new wr _).trans (hb.mono (by simp))
          have HX7:=Lib.hid (HX.out.on hbw)
          have HB7:=Lib.hid (HB.out.trans (hbw.mono HB.out.size))
          have hp0:=HX7.out.cell 0 _ rfl
          have hp1:=HX7.out.cell 1 _ rfl
          have hf:=HX7.out.frozen
          clear hb hbw
          go_wp2
          try simp only [Exit.noGoto]
          have hk:=HX7.out.put2 (.bool false) (.string ⟨#[]⟩)
          have k0:=hk.cell 0 _ rfl
          have k1:=hk.cell 1 _ rfl
          exact bodyPost_ret (v:=.tuple #[.agg #[.bool false,.string ⟨#[]⟩],.int .i64 120]) (by simp [results,Tryz.results109,go_sem,k0,k1]) rfl ⟨_,_,rfl,.inr ⟨HNO.out.1,rfl,HNO.out.2⟩,by first | exact below_put2 HB7.out (Nat.le_refl _) _ _ | exact HB7.out⟩
 · have hne:¬ S.toList=[]:=by
    rw [Lib.toList_data,HS.out,strN_data]
    intro h
    have:=HM.out
    rw [List.map_eq_nil_iff.1 h] at this
    simp at this
    omega
   have hne2:S.toList.isEmpty=false:=by
    cases hq:S.toList with
    | nil=>exact absurd hq hne
    | cons x r=>rfl
   have hidx:0<S.size:=by omega
   obtain ⟨x0,hx0'⟩:∃ x0,x0=xs.getD 0 0:=⟨_,rfl⟩
   have hch0:(S[0]'hidx).toNat=x0:=by rw [HCH.out 0 hidx,hx0']
   have hc0:((x0:Int)==45)=false:=beq_eq_false_iff_ne.2 (by omega)
   have HF:=Lib.hid hF
   clear hx0 hF hx0'
   go_enter Tryz.func109,Tryz.ntmps109
   go_wp2
   refine wp_scope_straight ?_
   go_wp2
   refine wp_label ?_
   go_wp2
   go_loopw [4] (fun av wr=>∃ j:Nat,0≤j∧j≤M∧av=.int .i64 (j:Int)∧Hid (∀ i,0≤i→i<j→¬ rdBad xs i)∧Hid (BoxAt wr w.heap.size #[.bool false,.string ⟨#[]⟩] 23)∧Hid (Below w.heap.size w wr)) (fun av _=>M-(intOf av).toNat)
   case atStart=>exact ⟨0,by omega,by omega,rfl,fun i h1 h2=>absurd h1 (by omega),HX0,HB0⟩
   case round =>
    obtain ⟨j,hFj,hj,rfl,HOKJ,HX,HB⟩:=hrel
    clear HX0 HB0
    have hsw:=HX.out.lt
    by_cases hjm:j<M
    · obtain ⟨x,hx⟩:∃ x,x=xs.getD j 0:=⟨_,rfl⟩
      have hji:j<S.size:=by omega
      have hc:(S[j]'hji).toNat=x:=by rw [HCH.out j hji,hx]
      have hx8:x<256:=by rw [hx]; exact H8.out.getD j
      have HXX:=Lib.hid hx
      clear hx
      have hcs:(x<48∨58≤x∨(x=48∧j=0∧1<M))∨((x=48∧j≠0)∨(x=48∧M≤1)∨(49≤x∧x<58)):=by omega
      rcases hcs with hbad | hgood
      · have HNO:Hid (NoK xs 120):=wrk_no (HNR.out j (by rw [HF.out]; exact hFj) hjm (by
         unfold rdBad Dg
         rw [← HXX.out,HF.out,← HM.out]
         omega)) HL.out
        rcases hbad with hb1 | hb1 | ⟨rfl,hb2,hb3⟩
        · have hS:=HS.out
          subst hS
          go_wp2_with fail
          refine (SetString_any (xs:=xs) (IntAt.new _).slot H8.out (by rw [← HM.out]; omega)).mono ?_
          rintro e w' h7
          rcases h7 with ⟨hok,rfl,hi7,ht⟩ | ⟨hno,rfl,hb⟩
          · have hbw:Below wr.heap.size wr w':=(below_new wr _).trans (ht.below (Nat.le_refl _) (by simp))
            have HX7:=Lib.hid (HX.out.on hbw)
            have HB7:=Lib.hid (HB.out.trans (hbw.mono HB.out.size))
            have hp0:=HX7.out.cell 0 _ rfl
            have hp1:=HX7.out.cell 1 _ rfl
            have hf:=HX7.out.frozen
            clear hi7 ht hbw
            go_wp2
            try simp only [Exit.noGoto]
            have hk:=HX7.out.put2 (.bool false) (.string ⟨#[]⟩)
            have k0:=hk.cell 0 _ rfl
            have k1:=hk.cell 1 _ rfl
            exact bodyPost_ret (v:=.tuple #[.agg #[.bool false,.string ⟨#[]⟩],.int .i64 120]) (by simp [results,Tryz.results109,go_sem,k0,k1]) rfl ⟨_,_,rfl,.inr ⟨HNO.out.1,rfl,HNO.out.2⟩,by first | exact below_put2 HB7.out (Nat.le_refl _) _ _ | exact HB7.out⟩
          · have hbw:Below wr.heap.size wr w':=(below_new wr _).trans (hb.mono (by simp))
            have HX7:=Lib.hid (HX.out.on hbw)
            have HB7:=Lib.hid (HB.out.trans (hbw.mono HB.out.size))
            have hp0:=HX7.out.cell 0 _ rfl
            have hp1:=HX7.out.cell 1 _ rfl
            have hf:=HX7.out.frozen
            clear hb hbw
            go_wp2
            try simp only [Exit.noGoto]
            have hk:=HX7.out.put2 (.bool false) (.string ⟨#[]⟩)
            have k0:=hk.cell 0 _ rfl
            have k1:=hk.cell 1 _ rfl
            exact bodyPost_ret (v:=.tuple #[.agg #[.bool false,.string ⟨#[]⟩],.int .i64 120]) (by simp [results,Tryz.results109,go_sem,k0,k1]) rfl ⟨_,_,rfl,.inr ⟨HNO.out.1,rfl,HNO.out.2⟩,by first | exact below_put2 HB7.out (Nat.le_refl _) _ _ | exact HB7.out⟩
        · have hS:=HS.out
          subst hS
          go_wp2_with fail
          refine (SetString_any (xs:=xs) (IntAt.new _).slot H8.out (by rw [← HM.out]; omega)).mono ?_
          rintro e w' h7
          rcases h7 with ⟨hok,rfl,hi7,ht⟩ | ⟨hno,rfl,hb⟩
          · have hbw:Below wr.heap.size wr w':=(below_new wr _).trans (ht.below (Nat.le_refl _) (by simp))
            have HX7:=Lib.hid (HX.out.on hbw)
            have HB7:=Lib.hid (HB.out.trans (hbw.mono HB.out.size))
            have hp0:=HX7.out.cell 0 _ rfl
            have hp1:=HX7.out.cell 1 _ rfl
            have hf:=HX7.out.frozen
            clear hi7 ht hbw
            go_wp2
            try simp only [Exit.noGoto]
            have hk:=HX7.out.put2 (.bool false) (.string ⟨#[]⟩)
            have k0:=hk.cell 0 _ rfl
            have k1:=hk.cell 1 _ rfl
            exact bodyPost_ret (v:=.tuple #[.agg #[.bool false,.string ⟨#[]⟩],.int .i64 120]) (by simp [results,Tryz.results109,go_sem,k0,k1]) rfl ⟨_,_,rfl,.inr ⟨HNO.out.1,rfl,HNO.out.2⟩,by first | exact below_put2 HB7.out (Nat.le_refl _) _ _ | exact HB7.out⟩
          · have hbw:Below wr.heap.size wr w':=(below_new wr _).trans (hb.mono (by simp))
            have HX7:=Lib.hid (HX.out.on hbw)
            have HB7:=Lib.hid (HB.out.trans (hbw.mono HB.out.size))
            have hp0:=HX7.out.cell 0 _ rfl
            have hp1:=HX7.out.cell 1 _ rfl
            have hf:=HX7.out.frozen
            clear hb hbw
            go_wp2
            try simp only [Exit.noGoto]
            have hk:=HX7.out.put2 (.bool false) (.string ⟨#[]⟩)
            have k0:=hk.cell 0 _ rfl
            have k1:=hk.cell 1 _ rfl
            exact bodyPost_ret (v:=.tuple #[.agg #[.bool false,.string ⟨#[]⟩],.int .i64 120]) (by simp [results,Tryz.results109,go_sem,k0,k1]) rfl ⟨_,_,rfl,.inr ⟨HNO.out.1,rfl,HNO.out.2⟩,by first | exact below_put2 HB7.out (Nat.le_refl _) _ _ | exact HB7.out⟩
        · have hjF:((j:Int)==0)=true:=beq_iff_eq.2 (by omega)
          clear hb2
          have hS:=HS.out
          subst hS
          go_wp2_with fail
          refine (SetString_any (xs:=xs) (IntAt.new _).slot H8.out (by rw [← HM.out]; omega)).mono ?_
          rintro e w' h7
          rcases h7 with ⟨hok,rfl,hi7,ht⟩ | ⟨hno,rfl,hb⟩
          · have hbw:Below wr.heap.size wr w':=(below_new wr _).trans (ht.below (Nat.le_refl _) (by simp))
            have HX7:=Lib.hid (HX.out.on hbw)
            have HB7:=Lib.hid (HB.out.trans (hbw.mono HB.out.size))
            have hp0:=HX7.out.cell 0 _ rfl
            have hp1:=HX7.out.cell 1 _ rfl
            have hf:=HX7.out.frozen
            clear hi7 ht hbw
            go_wp2
            try simp only [Exit.noGoto]
            have hk:=HX7.out.put2 (.bool false) (.string ⟨#[]⟩)
            have k0:=hk.cell 0 _ rfl
            have k1:=hk.cell 1 _ rfl
            exact bodyPost_ret (v:=.tuple #[.agg #[.bool false,.string ⟨#[]⟩],.int .i64 120]) (by simp [results,Tryz.results109,go_sem,k0,k1]) rfl ⟨_,_,rfl,.inr ⟨HNO.out.1,rfl,HNO.out.2⟩,by first | exact below_put2 HB7.out (Nat.le_refl _) _ _ | exact HB7.out⟩
          · have hbw:Below wr.heap.size wr w':=(below_new wr _).trans (hb.mono (by simp))
            have HX7:=Lib.hid (HX.out.on hbw)
            have HB7:=Lib.hid (HB.out.trans (hbw.mono HB.out.size))
            have hp0:=HX7.out.cell 0 _ rfl
            have hp1:=HX7.out.cell 1 _ rfl
            have hf:=HX7.out.frozen
            clear hb hbw
            go_wp2
            try simp only [Exit.noGoto]
            have hk:=HX7.out.put2 (.bool false) (.string ⟨#[]⟩)
            have k0:=hk.cell 0 _ rfl
            have k1:=hk.cell 1 _ rfl
            exact bodyPost_ret (v:=.tuple #[.agg #[.bool false,.string ⟨#[]⟩],.int .i64 120]) (by simp [results,Tryz.results109,go_sem,k0,k1]) rfl ⟨_,_,rfl,.inr ⟨HNO.out.1,rfl,HNO.out.2⟩,by first | exact below_put2 HB7.out (Nat.le_refl _) _ _ | exact HB7.out⟩
      · have HN2:Hid (∀ i,0≤i→i<j+1→¬ rdBad xs i):=fun i h1 h2=>by
         by_cases e:i=j
         · subst e
           unfold rdBad Dg
           rw [← HXX.out,HF.out,← HM.out]
           omega
         · exact HOKJ.out i h1 (by omega)
        rcases hgood with ⟨rfl,hb2⟩ | ⟨rfl,hb2⟩ | ⟨hb1,hb2⟩
        · have hjF:((j:Int)==0)=false:=beq_eq_false_iff_ne.2 (by omega)
          go_wp2
          go_roundw
          case rel=>exact ⟨j+1,by omega,by omega,by go_num,HN2,HX,HB⟩
          case measure=>simp [intOf]; omega
        · first
          | (exfalso; omega)
          | (have hjF:((j:Int)==0)=true:=beq_iff_eq.2 (by omega)
             go_wp2
             all_goals first | (exfalso; omega) | skip
             go_roundw
             case rel=>exact ⟨j+1,by omega,by omega,by go_num,HN2,HX,HB⟩
             case measure=>simp [intOf]; omega)
        · have hx48:((x:Int)==48)=false:=beq_eq_false_iff_ne.2 (by omega)
          go_wp2
          go_roundw
          case rel=>exact ⟨j+1,by omega,by omega,by go_num,HN2,HX,HB⟩
          case measure=>simp [intOf]; omega
    · obtain rfl:j=M:=by omega
      by_cases hFM:0<j
      · have HR:Hid (Rd xs):=(rd_loop xs).2 ⟨by rw [HF.out,← HM.out]; exact hFM,fun i h1 h2=>HOKJ.out i (by rw [HF.out] at h1; exact h1) (by rw [HM.out]; exact h2)⟩
        have HV:Hid (sg (decide (xs.head?=some 45)) (dval (dgS xs))=rdN xs):=by
         rw [Hid,(rd_dgS HR.out).1,rdN_ref]
         by_cases h:xs.head?=some 45
         · rw [if_pos h,decide_eq_true h]
           rfl
         · rw [if_neg h,decide_eq_false h]
           rfl
        have hjF:((j:Int)==0)=false:=beq_eq_false_iff_ne.2 (by omega)
        have hS:=HS.out
        subst hS
        go_wp2_with fail
        refine (SetString_any (xs:=xs) (IntAt.new _).slot H8.out (by rw [← HM.out]; omega)).mono ?_
        rintro e w' h7
        rcases h7 with ⟨hok,rfl,hi7,ht⟩ | ⟨hno,rfl,hb⟩
        · have hbw:Below wr.heap.size wr w':=(below_new wr _).trans (ht.below (Nat.le_refl _) (by simp))
          have HX7:=Lib.hid (HX.out.on hbw)
          have HB7:=Lib.hid (HB.out.trans (hbw.mono HB.out.size))
          have hp0:=HX7.out.cell 0 _ rfl
          have hp1:=HX7.out.cell 1 _ rfl
          have hf:=HX7.out.frozen
          have HI7:Hid (IntAt w' wr.heap.size 0 (rdN xs)):=by
           rw [Hid,← HV.out]
           exact hi7
          clear hi7 ht hbw hp0 hp1 hf
          by_cases hfit:(mag (rdN xs).natAbs).size≤16384
          · have HYES:Hid (Rd xs∧xs.length≤40000∧(mag (rdN xs).natAbs).size≤16384):=⟨HR.out,HL.out,hfit⟩
            go_wp2_with fail
            refine (Y.told_fits HI7.out hfit).mono ?_
            rintro e w8 ⟨rfl,hb8⟩
            have HX8:=Lib.hid (HX7.out.on hb8)
            have HB8:=Lib.hid (HB7.out.trans (hb8.mono HB7.out.size))
            have hp0:=HX8.out.cell 0 _ rfl
            have hp1:=HX8.out.cell 1 _ rfl
            have hf:=HX8.out.frozen
            have hwv:wholeV (rdN xs)=.agg #[.bool (decide (rdN xs<0)),.string (mag (rdN xs).natAbs)]:=rfl
            obtain ⟨bb,hbb⟩:∃ bb,bb=decide (rdN xs<0):=⟨_,rfl⟩
            obtain ⟨ss,hss⟩:∃ ss,ss=mag (rdN xs).natAbs:=⟨_,rfl⟩
            have HW:Hid (wholeV (rdN xs)=.agg #[.bool bb,.string ss]):=by rw [hbb,hss]; exact hwv
            rw [HW.out]
            clear hb8 hwv hbb hss
            go_wp2
            try simp only [Exit.noGoto]
            have hk:=HX8.out.put2 (.bool bb) (.string ss)
            have k0:=hk.cell 0 _ rfl
            have k1:=hk.cell 1 _ rfl
            exact bodyPost_ret (v:=.tuple #[.agg #[.bool bb,.string ss],.int .i64 0]) (by simp [results,Tryz.results109,go_sem,k0,k1]) rfl ⟨_,_,rfl,.inl ⟨HYES.out.1,HYES.out.2.1,HYES.out.2.2,HW.out.symm,rfl⟩,below_put2 HB8.out (Nat.le_refl _) _ _⟩
          · have HNO:Hid (NoK xs 4):=wrk_big HR.out HL.out hfit
            go_wp2_with fail
            refine (Y.told_over HI7.out hfit).mono ?_
            rintro e w8 ⟨rfl,hb8⟩
            have HX8:=Lib.hid (HX7.out.on hb8)
            have HB8:=Lib.hid (HB7.out.trans (hb8.mono HB7.out.size))
            clear HX7 HB7
            have HX7:=HX8
            have HB7:=HB8
            have hp0:=HX8.out.cell 0 _ rfl
            have hp1:=HX8.out.cell 1 _ rfl
            have hf:=HX8.out.frozen
            clear hb8
            go_wp2
            try simp only [Exit.noGoto]
            have hk:=HX7.out.put2 (.bool false) (.string ⟨#[]⟩)
            have k0:=hk.cell 0 _ rfl
            have k1:=hk.cell 1 _ rfl
            exact bodyPost_ret (v:=.tuple #[.agg #[.bool false,.string ⟨#[]⟩],.int .i64 4]) (by simp [results,Tryz.results109,go_sem,k0,k1]) rfl ⟨_,_,rfl,.inr ⟨HNO.out.1,rfl,HNO.out.2⟩,by first | exact below_put2 HB7.out (Nat.le_refl _) _ _ | exact HB7.out⟩
        · exact absurd (rd_dgS HR.out).2 hno
      · exfalso
        omega
 · have hne:S.toList=[]:=by
    rw [Lib.toList_data,HS.out,strN_data,hxs]
    rfl
   have hne2:S.toList.isEmpty=true:=by rw [hne]; rfl
   have HF:Hid (rdF xs=0):=by rw [Hid,hxs]; rfl
   clear hxs
   go_enter Tryz.func109,Tryz.ntmps109
   go_wp2
   refine wp_scope_straight ?_
   go_wp2
   refine wp_label ?_
   go_wp2
   go_loopw [4] (fun av wr=>∃ j:Nat,0≤j∧j≤M∧av=.int .i64 (j:Int)∧Hid (∀ i,0≤i→i<j→¬ rdBad xs i)∧Hid (BoxAt wr w.heap.size #[.bool false,.string ⟨#[]⟩] 23)∧Hid (Below w.heap.size w wr)) (fun av _=>M-(intOf av).toNat)
   case atStart=>exact ⟨0,by omega,by omega,rfl,fun i h1 h2=>absurd h1 (by omega),HX0,HB0⟩
   case round =>
    obtain ⟨j,hFj,hj,rfl,HOKJ,HX,HB⟩:=hrel
    clear HX0 HB0
    have hsw:=HX.out.lt
    obtain rfl:j=0:=by omega
    have hM00:M=0:=hM0
    subst hM00
    have HNO:Hid (NoK xs 120):=wrk_no (fun h=>by
     have:=((rd_loop xs).1 h).1
     rw [← HM.out] at this
     omega) HL.out
    have hS:=HS.out
    subst hS
    go_wp2_with fail
    refine (SetString_any (xs:=xs) (IntAt.new _).slot H8.out (by rw [← HM.out]; omega)).mono ?_
    rintro e w' h7
    rcases h7 with ⟨hok,rfl,hi7,ht⟩ | ⟨hno,rfl,hb⟩
    · have hbw:Below wr.heap.size wr w':=(below_new wr _).trans (ht.below (Nat.le_refl _) (by simp))
      have HX7:=Lib.hid (HX.out.on hbw)
      have HB7:=Lib.hid (HB.out.trans (hbw.mono HB.out.size))
      have hp0:=HX7.out.cell 0 _ rfl
      have hp1:=HX7.out.cell 1 _ rfl
      have hf:=HX7.out.frozen
      clear hi7 ht hbw
      go_wp2
      try simp only [Exit.noGoto]
      have hk:=HX7.out.put2 (.bool false) (.string ⟨#[]⟩)
      have k0:=hk.cell 0 _ rfl
      have k1:=hk.cell 1 _ rfl
      exact bodyPost_ret (v:=.tuple #[.agg #[.bool false,.string ⟨#[]⟩],.int .i64 120]) (by simp [results,Tryz.results109,go_sem,k0,k1]) rfl ⟨_,_,rfl,.inr ⟨HNO.out.1,rfl,HNO.out.2⟩,by first | exact below_put2 HB7.out (Nat.le_refl _) _ _ | exact HB7.out⟩
    · have hbw:Below wr.heap.size wr w':=(below_new wr _).trans (hb.mono (by simp))
      have HX7:=Lib.hid (HX.out.on hbw)
      have HB7:=Lib.hid (HB.out.trans (hbw.mono HB.out.size))
      have hp0:=HX7.out.cell 0 _ rfl
      have hp1:=HX7.out.cell 1 _ rfl
      have hf:=HX7.out.frozen
      clear hb hbw
      go_wp2
      try simp only [Exit.noGoto]
      have hk:=HX7.out.put2 (.bool false) (.string ⟨#[]⟩)
      have k0:=hk.cell 0 _ rfl
      have k1:=hk.cell 1 _ rfl
      exact bodyPost_ret (v:=.tuple #[.agg #[.bool false,.string ⟨#[]⟩],.int .i64 120]) (by simp [results,Tryz.results109,go_sem,k0,k1]) rfl ⟨_,_,rfl,.inr ⟨HNO.out.1,rfl,HNO.out.2⟩,by first | exact below_put2 HB7.out (Nat.le_refl _) _ _ | exact HB7.out⟩
end Go.Proofs.YthkpghhoffihmaaGreatDoor
end
section
namespace Go.Proofs.YthkpghhoffihmaaGreatDoor.Y
open Go Go.RowKit
set_option maxRecDepth 100000
def wdAt:SV→Nat
 | .one (.c (.b (.y k _ _)))=>k
 | _=>0
theorem wd_box {β:Env} {w:World} {j d:Nat} (hd:d<4294967296) (h:(Ob.box [.b (.v (.int .u32 (d:Int)))] 278).holds β w (β j)):Words w (.slice (some ⟨(β j).b,0,none⟩) 1 1) [d] :=
 ⟨by intro x hx; obtain rfl:=List.mem_singleton.1 hx; exact hd,by rw [List.length_singleton]; decide,some ⟨(β j).b,0,none⟩,1,rfl,Nat.le_refl _,fun _=>⟨(β j).b,0,_,_,rfl,h.2,fun i hi=>by
   obtain rfl:i=0:=by simp only [List.length_singleton] at hi; omega
   rfl⟩⟩
theorem val_one (d:Nat):val [d]=d:=by simp [val]
theorem trim_one {d:Nat} (hd:d<4294967296):trim [d]=dig d:=by
 refine dig_of _ _ (fun x hx=>?_) (val_one d)
 obtain rfl:=List.mem_singleton.1 hx
 exact hd
abbrev wdBx (d:Nat):Ob:=.box [.b (.v (.int .u32 (d:Int)))] 278
def ePrd (x d:Nat) (hx:dgL x≤8589934592) (hd:d<4294967296):Ev Tryz.prog:=.dyn (fun o _ _=>isCallB o) fun _ xs ob=>lit (wdAt (xs.getD 0 undefS)) fun i=>lit (bkOfY xs) fun j=>lit ob.length fun n =>
 .call 244 Tryz.call244 (fun β=>(([wdS i x,.one (.c (.b (.s j 0 1 1)))]:List SV).map (SV.den β)).toArray) [(i,(wdT x).ob),(j,wdBx d)] n (wdS n (x*d)) [wdT (x*d)] (fun β w h=>by
  have h0:WD x w (β i):=h (i,(wdT x).ob) (List.mem_cons_self ..)
  have h1:=h (j,wdBx d) (List.mem_cons_of_mem _ (List.mem_singleton.2 rfl))
  refine (rproduct_any h0.1 (wd_box hd h1) hx (by decide)).mono fun e w' ⟨v,he,hv,hb⟩=>?_
  rw [val_dig,val_one] at hv
  obtain ⟨A,c,rfl,h2⟩:=wd_of hv
  refine ⟨[wdPl A c],fun x hx c hc=>?_,?_,⟨h2,trivial⟩,hb⟩
  · obtain rfl:=List.mem_singleton.1 hx
    exact hc.elim
  · rw [he]
    show _=Ending.returned (.slice ((extE β n [wdPl A c] n).v 0) (dgL (x*d)) ((extE β n [wdPl A c] n).c 0))
    rw [show extE β n [wdPl A c] n=wdPl A c by have:=extE_in (β:=β) (n:=n) (xs:=[wdPl A c]) (i:=0) (x:=wdPl A c) rfl; rwa [Nat.add_zero] at this])
def ePrd0 (d:Nat) (hd:d<4294967296):Ev Tryz.prog:=.dyn (fun o _ _=>isCallB o) fun _ xs ob=>lit (bkOfY xs) fun j=>lit ob.length fun n =>
 .call 244 Tryz.call244 (fun β=>(([nilW,.one (.c (.b (.s j 0 1 1)))]:List SV).map (SV.den β)).toArray) [(j,wdBx d)] n (wdS n (0*d)) [wdT (0*d)] (fun β w h=>by
  have h1:=h (j,wdBx d) (List.mem_singleton.2 rfl)
  refine (rproduct_any (Words.nil w) (wd_box hd h1) (by decide) (by decide)).mono fun e w' ⟨v,he,hv,hb⟩=>?_
  rw [val_one,show val []=0 from rfl] at hv
  obtain ⟨A,c,rfl,h2⟩:=wd_of hv
  refine ⟨[wdPl A c],fun x hx c hc=>?_,?_,⟨h2,trivial⟩,hb⟩
  · obtain rfl:=List.mem_singleton.1 hx
    exact hc.elim
  · rw [he]
    show _=Ending.returned (.slice ((extE β n [wdPl A c] n).v 0) (dgL (0*d)) ((extE β n [wdPl A c] n).c 0))
    rw [show extE β n [wdPl A c] n=wdPl A c by have:=extE_in (β:=β) (n:=n) (xs:=[wdPl A c]) (i:=0) (x:=wdPl A c) rfl; rwa [Nat.add_zero] at this])
def eCut1 (d:Nat) (hd:d<4294967296):Ev Tryz.prog:=.dyn (fun o _ _=>isCallB o) fun _ xs ob=>lit (bkOfY xs) fun j=>lit ob.length fun n =>
 .call 245 Tryz.call245 (fun β=>(([.one (.c (.b (.s j 0 1 1)))]:List SV).map (SV.den β)).toArray) [(j,wdBx d)] n (wdS n d) [wdT d] (fun β w h=>by
  have h1:=h (j,wdBx d) (List.mem_singleton.2 rfl)
  have h3:=(wd_box hd h1).trim_
  refine (rcut_any (wd_box hd h1)).mono fun e w' ⟨he,hw⟩=>?_
  subst hw
  rw [trim_one hd] at he h3
  refine ⟨[wdPl (some ⟨(β j).b,0,none⟩) 1],fun x hx c hc=>?_,?_,⟨⟨h3,fun _ h=>h⟩,trivial⟩,Below.refl _ _⟩
  · obtain rfl:=List.mem_singleton.1 hx
    exact hc.elim
  · rw [he]
    show _=Ending.returned (.slice ((extE β n [wdPl (some ⟨(β j).b,0,none⟩) 1] n).v 0) (dgL d) ((extE β n [wdPl (some ⟨(β j).b,0,none⟩) 1] n).c 0))
    rw [show extE β n [wdPl (some ⟨(β j).b,0,none⟩) 1] n=wdPl (some ⟨(β j).b,0,none⟩) 1 by have:=extE_in (β:=β) (n:=n) (xs:=[wdPl (some ⟨(β j).b,0,none⟩) 1]) (i:=0) (x:=wdPl (some ⟨(β j).b,0,none⟩) 1) rfl; rwa [Nat.add_zero] at this])
def sRMadeI (neg:Bool) {x:Nat} {n:Int} (hn:sg neg x=n) (hx:dgL x≤4294967296):Spec Tryz.prog :=
 ⟨230,Tryz.call230,[.one (.c (.b (.v (.bool neg)))),wdS 0 x],[wdT x],txW n,[],fun β w hh=>by
  have h0:WD x w (β 0):=hh 0 _ rfl
  refine (made_any neg h0.1 hx).mono fun e w' ⟨he,hb⟩=>⟨[],(fun _ h=>by cases h),?_,trivial,hb⟩
  rw [he,val_dig,hn]
  rfl,by kernel_rfl⟩
noncomputable abbrev rdF2:Func:=Tryz.f110
noncomputable abbrev rdN2:Nat:=sizeS rdF2 [stV []]
abbrev u64v (n:Nat):SV:=.one (.c (.b (.v (.int .u64 (n:Int)))))
abbrev bV (b:Bool):SV:=.one (.c (.b (.v (.bool b))))
abbrev rdSl (ts:List Nat) (neg:Bool) (l:SV) (i ten n k:Nat):List (Nat × SV):=[(2,.one (.c (.b (.p 1 0)))),(3,rtI 0),(4,stV ts),(5,bV neg),(6,l),(7,rtI (i:Int)),(8,u64v ten),(9,u64v n),(10,rtI (k:Int))]
noncomputable abbrev rdc0 (ts:List Nat) (neg:Bool) (i ten n k:Nat) (ev:List (Ev Tryz.prog)):Cf Tryz.prog:=mkC Tryz.prog rdN2 0 (rdSl ts neg nilW i ten n k) [.dead,.box wh0 WHT] ev
noncomputable abbrev rdc1 (ts:List Nat) (neg:Bool) (x i ten n k:Nat) (ev:List (Ev Tryz.prog)):Cf Tryz.prog:=mkC Tryz.prog rdN2 0 (rdSl ts neg (wdS 2 x) i ten n k) [.dead,.box wh0 WHT,(wdT x).ob] ev
noncomputable abbrev rdH (β0:Env) (w:World) (res:SV) (C:Cf Tryz.prog):Prop:=HdOk Tryz.prog 0 rdN2 w.heap.size w β0 (bodyPost Tryz.prog rdF2 (Said Tryz.prog rdF2 0 res [] β0 w)) C (lpAt rdF2 1)
abbrev rdOk (v:Int):SV:=.tup [.a [.b (.v (.bool (decide (v<0)))),.b (.v (.string (mag v.natAbs)))],.c (.b (.v (.int .i64 0)))]
abbrev rdNo:SV:=.tup [.a [.b (.v (.bool false)),.b (.v (.string ⟨#[]⟩))],.c (.b (.v (.int .i64 120)))]
theorem lt_lit {a b:Int} {t:Bool} (h:decide (a<b)=t):Value.bool (decide (a<b))=.bool t:=by rw [h]
theorem eq_lit {a b:Int} {t:Bool} (h:(a==b)=t):Value.bool (a==b)=.bool t:=by rw [h]
theorem w64 {a:Int} {n:Nat} (h:a=(n:Int)) (hn:n<18446744073709551616):Value.int .u64 (IntKind.u64.wrap a)=.int .u64 (n:Int):=by
 rw [h,show IntKind.u64.wrap (n:Int)=(n:Int) by rw [IntKind.wrap_u64]; omega]
theorem w32 {a:Int} {n:Nat} (h:a=(n:Int)) (hn:n<4294967296):Value.int .u32 (IntKind.u32.wrap a)=.int .u32 (n:Int):=by
 rw [h,show IntKind.u32.wrap (n:Int)=(n:Int) by rw [IntKind.wrap_u32]; omega]
theorem w8 {a:Int} {n:Nat} (h:a=(n:Int)) (hn:n<256):Value.int .u8 (IntKind.u8.wrap a)=.int .u8 (n:Int):=by
 rw [h,show IntKind.u8.wrap (n:Int)=(n:Int) by rw [IntKind.wrap_u8]; omega]
theorem wi64 {a:Int} {n:Nat} (h:a=(n:Int)) (hn:n<9223372036854775808):Value.int .i64 (IntKind.i64.wrap a)=.int .i64 (n:Int):=by
 rw [h,show IntKind.i64.wrap (n:Int)=(n:Int) by rw [IntKind.wrap_i64]; omega]
theorem stz_lit {ts:List Nat} {m:Nat} (h:ts.length=m):Value.int .i64 (((strN ts).size:Nat):Int)=.int .i64 (m:Int):=by rw [strN_size,h]
def rdOut9 {k:Nat} (hk:k=9):List (Ev Tryz.prog):=[.eqv 44 (.bool (decide ((k:Int)<9))) (.bool false) (lt_lit (decide_eq_false (by omega)))]
def rdOutM {ts:List Nat} {m i k:Nat} (hm:ts.length=m) (hk:k<9) (hi:i=m):List (Ev Tryz.prog):=[.eqv 44 (.bool (decide ((k:Int)<9))) (.bool true) (lt_lit (decide_eq_true (by omega))),.eqv 48 (.int .i64 (((strN ts).size:Nat):Int)) (.int .i64 (m:Int)) (stz_lit hm),.eqv 49 (.bool (decide ((i:Int)<(m:Int)))) (.bool false) (lt_lit (decide_eq_false (by omega)))]
def rdTail {ten n y:Nat} (ht:ten≤1000000000) (hn:n<1000000000) (S:Ev Tryz.prog) (hp:dgL (y*ten)≤8589934592) (hd:dgL n≤8589934592):List (Ev Tryz.prog) :=
 [.eqv 78 (.int .u32 (IntKind.u32.wrap (ten:Int))) (.int .u32 (ten:Int)) (w32 rfl (by omega)),S,.eqv 82 (.int .u32 (IntKind.u32.wrap (n:Int))) (.int .u32 (n:Int)) (w32 rfl (by omega)),eCut1 n (by omega),(sRMore hp hd).e]
def rdOn {ts:List Nat} {m i:Nat} (hm:ts.length=m) (hi:i<m):List (Ev Tryz.prog):=[.eqv 41 (.int .i64 (((strN ts).size:Nat):Int)) (.int .i64 (m:Int)) (stz_lit hm),.eqv 42 (.bool (decide ((i:Int)<(m:Int)))) (.bool true) (lt_lit (decide_eq_true (by omega))),.cut]
def rdFin {ts:List Nat} {m i:Nat} {neg:Bool} (hm:ts.length=m) (hi:i=m) {v:Int} {s:Nat} (hv:sg neg s=v) (hs:dgL s≤4294967296):List (Ev Tryz.prog):=[.eqv 41 (.int .i64 (((strN ts).size:Nat):Int)) (.int .i64 (m:Int)) (stz_lit hm),.eqv 42 (.bool (decide ((i:Int)<(m:Int)))) (.bool false) (lt_lit (decide_eq_false (by omega))),(sRMadeI neg hv hs).e]
section
variable (β0:Env) (w:World) (res:SV) {ts:List Nat} {neg:Bool} {m i ten n k x y:Nat} (h8:B8 ts) (hm:ts.length=m) (hm6:m≤100000)
def rdGo (hk:k<9) (hi:i<m):List (Ev Tryz.prog):=[.eqv 44 (.bool (decide ((k:Int)<9))) (.bool true) (lt_lit (decide_eq_true (by omega))),.eqv 48 (.int .i64 (((strN ts).size:Nat):Int)) (.int .i64 (m:Int)) (stz_lit hm),.eqv 49 (.bool (decide ((i:Int)<(m:Int)))) (.bool true) (lt_lit (decide_eq_true (by omega)))]
def rdStep (hk:k<9) (hi:i<m) (hx:ts.getD i 0=x) (h1:48≤x) (h2:x<58) (hn:n<1000000000) (ht:ten≤1000000000):List (Ev Tryz.prog) :=
 rdGo hm hk hi++[eStI h8 (by omega) hx,.eqv 56 (.bool (decide ((x:Int)<48))) (.bool false) (lt_lit (decide_eq_false (by omega))),eStI h8 (by omega) hx,.eqv 61 (.bool (decide (57<(x:Int)))) (.bool false) (lt_lit (decide_eq_false (by omega))),
  .eqv 65 (.int .u64 (IntKind.u64.wrap (10*(n:Int)))) (.int .u64 ((10*n:Nat):Int)) (w64 (by omega) (by omega)),eStI h8 (by omega) hx,.eqv 69 (.int .u8 (IntKind.u8.wrap ((x:Int)-48))) (.int .u8 ((x-48:Nat):Int)) (w8 (by omega) (by omega)),.eqv 70 (.int .u64 (IntKind.u64.wrap ((x-48:Nat):Int))) (.int .u64 ((x-48:Nat):Int)) (w64 rfl (by omega)),.eqv 71 (.int .u64 (IntKind.u64.wrap (((10*n:Nat):Int)+((x-48:Nat):Int)))) (.int .u64 ((10*n+(x-48):Nat):Int)) (w64 (by omega) (by omega)),
  .eqv 73 (.int .u64 (IntKind.u64.wrap (10*(ten:Int)))) (.int .u64 ((10*ten:Nat):Int)) (w64 (by omega) (by omega)),.eqv 75 (.int .i64 (IntKind.i64.wrap ((i:Int)+1))) (.int .i64 ((i+1:Nat):Int)) (wi64 (by omega) (by omega)),.eqv 52 (.int .i64 (IntKind.i64.wrap ((k:Int)+1))) (.int .i64 ((k+1:Nat):Int)) (wi64 (by omega) (by omega)),.cut]
theorem rd0_step (hk:k<9) (hi:i<m) (hx:ts.getD i 0=x) (h1:48≤x) (h2:x<58) (hn:n<1000000000) (ht:ten≤1000000000) (h:rdH β0 w res (rdc0 ts neg (i+1) (10*ten) (10*n+(x-48)) (k+1) [])) :
  rdH β0 w res (rdc0 ts neg i ten n k (rdStep h8 hm hm6 hk hi hx h1 h2 hn ht)):=piece_ok (Ns:=[]) (m:=300) [] [0,1] hmA (by kernel_rfl) (fun β=>ok_of_maps (by kernel_rfl)) h
theorem rd1_step (hk:k<9) (hi:i<m) (hx:ts.getD i 0=x) (h1:48≤x) (h2:x<58) (hn:n<1000000000) (ht:ten≤1000000000) (h:rdH β0 w res (rdc1 ts neg y (i+1) (10*ten) (10*n+(x-48)) (k+1) [])) :
  rdH β0 w res (rdc1 ts neg y i ten n k (rdStep h8 hm hm6 hk hi hx h1 h2 hn ht)):=piece_ok (Ns:=[]) (m:=300) [] [0,1,2] hmA (by kernel_rfl) (fun β=>ok_of_maps (by kernel_rfl)) h
def rdBadL (hk:k<9) (hi:i<m) (hx:ts.getD i 0=x) (h1:x<48):List (Ev Tryz.prog):=rdGo hm hk hi++[eStI h8 (by omega) hx,.eqv 56 (.bool (decide ((x:Int)<48))) (.bool true) (lt_lit (decide_eq_true (by omega)))]
def rdBadH (hk:k<9) (hi:i<m) (hx:ts.getD i 0=x) (h1:58≤x):List (Ev Tryz.prog):=rdGo hm hk hi++[eStI h8 (by omega) hx,.eqv 56 (.bool (decide ((x:Int)<48))) (.bool false) (lt_lit (decide_eq_false (by omega))),eStI h8 (by omega) hx,.eqv 61 (.bool (decide (57<(x:Int)))) (.bool true) (lt_lit (decide_eq_true (by omega)))]
theorem rd0_badL (hk:k<9) (hi:i<m) (hx:ts.getD i 0=x) (h1:x<48):rdH β0 w rdNo (rdc0 ts neg i ten n k (rdBadL h8 hm hk hi hx h1)):=last_ok (Ns:=[]) (m:=300) hmA (fun β=>ok_of_maps (by kernel_rfl))
theorem rd1_badL (hk:k<9) (hi:i<m) (hx:ts.getD i 0=x) (h1:x<48):rdH β0 w rdNo (rdc1 ts neg y i ten n k (rdBadL h8 hm hk hi hx h1)):=last_ok (Ns:=[]) (m:=300) hmA (fun β=>ok_of_maps (by kernel_rfl))
theorem rd0_badH (hk:k<9) (hi:i<m) (hx:ts.getD i 0=x) (h1:58≤x):rdH β0 w rdNo (rdc0 ts neg i ten n k (rdBadH h8 hm hk hi hx h1)):=last_ok (Ns:=[]) (m:=300) hmA (fun β=>ok_of_maps (by kernel_rfl))
theorem rd1_badH (hk:k<9) (hi:i<m) (hx:ts.getD i 0=x) (h1:58≤x):rdH β0 w rdNo (rdc1 ts neg y i ten n k (rdBadH h8 hm hk hi hx h1)):=last_ok (Ns:=[]) (m:=300) hmA (fun β=>ok_of_maps (by kernel_rfl))
section
variable (ht:ten≤1000000000) (hn:n<1000000000)
theorem rd0_grp (hk:k=9) (hi:i<m) (hp:dgL (0*ten)≤8589934592) (hd:dgL n≤8589934592) (hx:dgL 0≤8589934592) (h:rdH β0 w res (rdc1 ts neg (0*ten+n) i 1 0 0 [])) :
  rdH β0 w res (rdc0 ts neg i ten n k (rdOut9 hk++rdTail ht hn (ePrd0 ten (by omega)) hp hd++rdOn hm hi)):=piece_ok (Ns:=[]) (m:=300) [] [0,1,6] hmA (by kernel_rfl) (fun β=>ok_of_maps (by kernel_rfl)) h
theorem rd1_grp (hk:k=9) (hi:i<m) (hp:dgL (y*ten)≤8589934592) (hd:dgL n≤8589934592) (hx:dgL y≤8589934592) (h:rdH β0 w res (rdc1 ts neg (y*ten+n) i 1 0 0 [])) :
  rdH β0 w res (rdc1 ts neg y i ten n k (rdOut9 hk++rdTail ht hn (ePrd y ten hx (by omega)) hp hd++rdOn hm hi)):=piece_ok (Ns:=[]) (m:=300) [] [0,1,7] hmA (by kernel_rfl) (fun β=>ok_of_maps (by kernel_rfl)) h
section
variable {v:Int}
theorem rd0_end9 (hk:k=9) (hi:i=m) (hp:dgL (0*ten)≤8589934592) (hd:dgL n≤8589934592) (hx:dgL 0≤8589934592) (hv:sg neg (0*ten+n)=v) (hs:dgL (0*ten+n)≤4294967296) :
  rdH β0 w (rdOk v) (rdc0 ts neg i ten n k (rdOut9 hk++rdTail ht hn (ePrd0 ten (by omega)) hp hd++rdFin hm hi hv hs)):=last_ok (Ns:=[]) (m:=300) hmA (fun β=>ok_of_maps (by kernel_rfl))
theorem rd1_end9 (hk:k=9) (hi:i=m) (hp:dgL (y*ten)≤8589934592) (hd:dgL n≤8589934592) (hx:dgL y≤8589934592) (hv:sg neg (y*ten+n)=v) (hs:dgL (y*ten+n)≤4294967296) :
  rdH β0 w (rdOk v) (rdc1 ts neg y i ten n k (rdOut9 hk++rdTail ht hn (ePrd y ten hx (by omega)) hp hd++rdFin hm hi hv hs)):=last_ok (Ns:=[]) (m:=300) hmA (fun β=>ok_of_maps (by kernel_rfl))
theorem rd0_endM (hk:k<9) (hi:i=m) (hp:dgL (0*ten)≤8589934592) (hd:dgL n≤8589934592) (hx:dgL 0≤8589934592) (hv:sg neg (0*ten+n)=v) (hs:dgL (0*ten+n)≤4294967296) :
  rdH β0 w (rdOk v) (rdc0 ts neg i ten n k (rdOutM hm hk hi++rdTail ht hn (ePrd0 ten (by omega)) hp hd++rdFin hm hi hv hs)):=last_ok (Ns:=[]) (m:=300) hmA (fun β=>ok_of_maps (by kernel_rfl))
theorem rd1_endM (hk:k<9) (hi:i=m) (hp:dgL (y*ten)≤8589934592) (hd:dgL n≤8589934592) (hx:dgL y≤8589934592) (hv:sg neg (y*ten+n)=v) (hs:dgL (y*ten+n)≤4294967296) :
  rdH β0 w (rdOk v) (rdc1 ts neg y i ten n k (rdOutM hm hk hi++rdTail ht hn (ePrd y ten hx (by omega)) hp hd++rdFin hm hi hv hs)):=last_ok (Ns:=[]) (m:=300) hmA (fun β=>ok_of_maps (by kernel_rfl))
end
end
end
end Go.Proofs.YthkpghhoffihmaaGreatDoor.Y
end
