/- SyC, RRt, RRu, GpA, GpB, GpC, GsD, GsE, L4, Wof, Ops. -/
import Derived.Test.YtmfedaakeeiolaaGreatRk11
set_option linter.unnecessarySimpa false
set_option linter.unusedVariables false
set_option linter.unusedSimpArgs false
section
namespace Go.Proofs.YtmfedaakeeiolaaGreat.Y
open Go Go.RowKit
inductive Stop (P:Program) where
 | ended (f:Cf P)
 | head (c:Code) (ks:List Kf) (f:Cf P)
def Stop.cf {P:Program}:Stop P→Cf P
 | .ended f=>f
 | .head _ _ f=>f
def runP (P:Program) (m0 n:Nat) (Ns:List (Nat × Nat)):Nat→Option Code→List Kf→Cf P→Option (Stop P)
 | 0,_,_,_=>none
 | m+1,oc,ks,f=>match oc with
  | none=>match ks with
   | []=>some (.ended f)
   | .sq c::r=>runP P m0 n Ns m (some c) r f
   | .bl _::r=>runP P m0 n Ns m none r f
   | .lp c::r=>match f.ev with
    | .cut::ev'=>some (.head c r { f with ev:=ev' })
    | _=>runP P m0 n Ns m (some c) (.lp c::r) f
   | .sc::r=>runP P m0 n Ns m none r f
  | some c=>match c with
   | .skip=>runP P m0 n Ns m none ks f
   | .label _=>runP P m0 n Ns m none ks f
   | .region id ops d=>match (bif d then drawS1 P m0 n Ns id ops.toList f else seqS P m0 n ops ops.toList f) with
    | some f'=>runP P m0 n Ns m none ks f'
    | none=>none
   | .seq a b=>runP P m0 n Ns m (some a) (.sq b::ks) f
   | .cond x a b=>match evS idE f.sl x with
    | .bool true=>runP P m0 n Ns m (some a) ks { f with cs:=(fun β=>[(.v (evS β f.sl x),.v (.bool true))])::f.cs }
    | .bool false=>runP P m0 n Ns m (some b) ks { f with cs:=(fun β=>[(.v (evS β f.sl x),.v (.bool false))])::f.cs }
    | _=>none
   | .block id c=>runP P m0 n Ns m (some c) (.bl id::ks) f
   | .loop c=>match f.ev with
    | .cut::ev'=>some (.head c ks { f with ev:=ev' })
    | _=>runP P m0 n Ns m (some c) (.lp c::ks) f
   | .scope c=>runP P m0 n Ns m (some c) (.sc::ks) f
   | .exit id=>match popTo id ks with
    | some r=>runP P m0 n Ns m none r f
    | none=>none
   | .ret=>some (.ended f)
   | _=>none
def Stop.after {P:Program} (Q:Exit→Act→World→Prop) (a:Act) (w:World):Stop P→Prop
 | .ended _=>Q .normal a w∧Q .ret a w
 | .head c ks _=>Rounds P c (post P Q ks) a w
theorem Sync.ev {P:Program} {m0 n:Nat} {B0:Bd} {w0:World} {c:Cf P} {β:Env} {a:Act} {w:World} (h:Sync P m0 n B0 w0 c β a w) (x:List (Ev P)):Sync P m0 n B0 w0 { c with ev:=x } β a w:=⟨h.good,h.q,h.sl,h.of,h.m0,h.defers,h.uq⟩
theorem runP_ok {P:Program} {m0 n:Nat} {Ns:List (Nat × Nat)} (hm:P.follows .mixedOrders=true):∀ (m:Nat) (oc:Option Code) (ks:List Kf) (f:Cf P) (s:Stop P),runP P m0 n Ns m oc ks f=some s→f.full→(∀ x∈f.cs,x∈s.cf.cs)∧s.cf.full ∧
  (s.cf.good→∀ {B0:Bd} {w0:World} {β:Env} {a:Act} {w:World},Sync P m0 n B0 w0 f β a w→∀ (Q:Exit→Act→World→Prop),(∀ β' a' w',(∀ k,k<B0.k→β' k=β k)→Sync P m0 n B0 w0 s.cf β' a' w'→s.after Q a' w')→toShow P Q oc ks a w):=by
 intro m
 induction m with
 | zero=>intro oc ks f f' h; simp only [runP] at h; cases h
 | succ m ih =>
  intro oc ks f f' h hf
  simp only [runP] at h
  cases oc with
  | none =>
   dsimp only at h
   cases ks with
   | nil =>
    obtain rfl:=Option.some.inj h
    exact ⟨fun _ hx=>hx,hf,fun _ B0 w0 β a w s Q hQ=>(hQ β a w (fun _ _=>rfl) s).1⟩
   | cons x r =>
    cases x with
    | sq c=>obtain ⟨i1,i2,i3⟩:=ih _ _ _ _ h hf; exact ⟨i1,i2,fun hg B0 w0 β a w s Q hQ=>i3 hg s Q hQ⟩
    | bl j =>
     obtain ⟨i1,i2,i3⟩:=ih _ _ _ _ h hf
     exact ⟨i1,i2,fun hg B0 w0 β a w s Q hQ=>i3 hg s Q hQ⟩
    | lp c =>
     dsimp only at h
     split at h
     · obtain rfl:=Option.some.inj h
       exact ⟨fun _ hx=>hx,hf,fun _ B0 w0 β a w s Q hQ=>hQ β a w (fun _ _=>rfl) (s.ev _)⟩
     · obtain ⟨i1,i2,i3⟩:=ih _ _ _ _ h hf
       exact ⟨i1,i2,fun hg B0 w0 β a w s Q hQ=>rounds_one (i3 hg s Q hQ)⟩
    | sc=>obtain ⟨i1,i2,i3⟩:=ih _ _ _ _ h hf; exact ⟨i1,i2,fun hg B0 w0 β a w s Q hQ=>i3 hg s Q hQ⟩
  | some c =>
   cases c with
   | skip=>obtain ⟨i1,i2,i3⟩:=ih _ _ _ _ h hf; exact ⟨i1,i2,fun hg B0 w0 β a w s Q hQ=>wp_skip (i3 hg s Q hQ)⟩
   | label l=>obtain ⟨i1,i2,i3⟩:=ih _ _ _ _ h hf; exact ⟨i1,i2,fun hg B0 w0 β a w s Q hQ=>wp_label (i3 hg s Q hQ)⟩
   | region rid ops d =>
    dsimp only at h
    split at h
    · rename_i f1 h1
      cases d with
      | true =>
       simp only [cond_true] at h1
       have hf1:=drawS1_full h1 hf
       obtain ⟨i1,i2,i3⟩:=ih _ _ _ _ h hf1
       obtain ⟨j1,j2⟩:=drawS1_ok hm h1 (fun k hk=>(hf.1 k).1 hk) hf.2
       refine ⟨fun x hx=>i1 x (j1 x hx),i2,fun hg B0 w0 β a w s Q hQ=>?_⟩
       have:=j2 (fun β x hx=>hg β x (i1 x hx)) s (post P Q ks) fun β' a' w' e s'=>i3 hg s' Q fun β2 a2 w2 e2 s2=>hQ β2 a2 w2 (fun k hk=>(e2 k hk).trans (e k hk)) s2
       unfold RegAny at this
       simp only [Array.toArray_toList] at this
       exact wp_region_any hm this
      | false =>
       simp only [cond_false] at h1
       have hf1:=seqS_full h1 hf
       obtain ⟨i1,i2,i3⟩:=ih _ _ _ _ h hf1
       obtain ⟨j1,j2⟩:=seqS_ok h1
       exact ⟨fun x hx=>i1 x (j1 x hx),i2,fun hg B0 w0 β a w s Q hQ=>wp_region_list (j2 (fun β x hx=>hg β x (i1 x hx)) s (post P Q ks) fun β' a' w' e s'=>i3 hg s' Q fun β2 a2 w2 e2 s2=>hQ β2 a2 w2 (fun k hk=>(e2 k hk).trans (e k hk)) s2)⟩
    · cases h
   | seq c d=>obtain ⟨i1,i2,i3⟩:=ih _ _ _ _ h hf; exact ⟨i1,i2,fun hg B0 w0 β a w s Q hQ=>wp_seq (i3 hg s Q hQ)⟩
   | cond x c d =>
    dsimp only at h
    split at h
    · obtain ⟨i1,i2,i3⟩:=ih _ _ _ _ h hf
      refine ⟨fun y hy=>i1 y (List.mem_cons_of_mem _ hy),i2,fun hg B0 w0 β a w s Q hQ=>?_⟩
      obtain ⟨e,_⟩:=Eqs.cons_ok (hg β _ (i1 _ (List.mem_cons_self ..)))
      injection e with e
      exact wp_cond_true (by rw [s.sl.eval]; exact e) (i3 hg (s.cs _) Q hQ)
    · obtain ⟨i1,i2,i3⟩:=ih _ _ _ _ h hf
      refine ⟨fun y hy=>i1 y (List.mem_cons_of_mem _ hy),i2,fun hg B0 w0 β a w s Q hQ=>?_⟩
      obtain ⟨e,_⟩:=Eqs.cons_ok (hg β _ (i1 _ (List.mem_cons_self ..)))
      injection e with e
      exact wp_cond_false (by rw [s.sl.eval]; exact e) (i3 hg (s.cs _) Q hQ)
    · cases h
   | block j c=>obtain ⟨i1,i2,i3⟩:=ih _ _ _ _ h hf; exact ⟨i1,i2,fun hg B0 w0 β a w s Q hQ=>wp_block (i3 hg s Q hQ)⟩
   | loop c =>
    dsimp only at h
    split at h
    · obtain rfl:=Option.some.inj h
      exact ⟨fun _ hx=>hx,hf,fun _ B0 w0 β a w s Q hQ=>rounds_loop (hQ β a w (fun _ _=>rfl) (s.ev _))⟩
    · obtain ⟨i1,i2,i3⟩:=ih _ _ _ _ h hf
      exact ⟨i1,i2,fun hg B0 w0 β a w s Q hQ=>rounds_loop (rounds_one (i3 hg s Q hQ))⟩
   | rangeFunc _ _ _ _=>cases h
   | exit j =>
    dsimp only at h
    split at h
    · rename_i r hr
      obtain ⟨i1,i2,i3⟩:=ih _ _ _ _ h hf
      exact ⟨i1,i2,fun hg B0 w0 β a w s Q hQ=>wp_exit (post_exit hr (i3 hg s Q hQ))⟩
    · cases h
   | scope c=>obtain ⟨i1,i2,i3⟩:=ih _ _ _ _ h hf; exact ⟨i1,i2,fun hg B0 w0 β a w s Q hQ=>wp_scope_straight (i3 hg s Q hQ)⟩
   | goto _=>cases h
   | ret =>
    obtain rfl:=Option.some.inj h
    exact ⟨fun _ hx=>hx,hf,fun _ B0 w0 β a w s Q hQ=>wp_ret (post_ret (hQ β a w (fun _ _=>rfl) s).2 ks)⟩
   | refuse _=>cases h
def loopsOf:Nat→Code→List Kf→List (Code × List Kf)
 | 0,_,_=>[]
 | m+1,c,ks=>match c with
  | .seq a b=>loopsOf m a (.sq b::ks)++loopsOf m b ks
  | .cond _ a b=>loopsOf m a ks++loopsOf m b ks
  | .block id c=>loopsOf m c (.bl id::ks)
  | .loop c=>(c,ks)::loopsOf m c (.lp c::ks)
  | .scope c=>loopsOf m c (.sc::ks)
  | _=>[]
def lpAt (fn:Func) (i:Nat):Code × List Kf:=match fn.body with
 | some c=>(loopsOf 200 c []).getD i (.skip,[])
 | none=>(.skip,[])
def Stop.pos {P:Program}:Stop P→Option (Code × List Kf)
 | .ended _=>none
 | .head c ks _=>some (c,ks)
def mkC (P:Program) (n u:Nat) (sl:List (Nat × SV)) (ob:List Ob) (ev:List (Ev P)):Cf P :=
 ⟨sl++(List.range n).map fun t=>(t,.one (.c (.b (.gh u t)))),fun k=>Nat.blt k ob.length,ob,ev,[]⟩
def tEq1 (β:Env) (σ:List Nat):Env:=fun j=>β (σ.getD j 0)
def opaqB (u t:Nat):SV→Bool
 | .one (.c (.b (.gh k i)))=>Nat.beq k u&&Nat.beq i t
 | _=>false
def layB:Ob→Bool
 | .box _ _=>true
 | .row _ _ _ _=>true
 | .ow _ _=>true
 | _=>false
def deadB:Ob→Bool
 | .dead=>true
 | _=>false
def kindB:Ob→Ob→Bool
 | .th _,.th _=>true
 | .al _ _,.th _=>true
 | .box _ _,.box _ _=>true
 | .row _ _ _ _,.row _ _ _ _=>true
 | .ow _ _,.ow _ _=>true
 | .ow _ _,.th _=>true
 | _,.dead=>true
 | _,_=>false
def wkB (m0 u:Nat) (obS obT:List Ob) (σ:List Nat):Bool :=
 Nat.beq σ.length obT.length&&Nat.ble m0 u&&Nat.blt u obT.length&&(List.range m0).all (fun i=>Nat.beq (σ.getD i 0) i) &&
 (List.range obT.length).all fun j=>match obT[j]? with
  | none=>false
  | some x=>(bif Nat.beq j u then deadB x else match obS[σ.getD j 0]? with
    | none=>false
    | some y=>kindB y x&&x.of (fun k=>Nat.blt k obT.length&&!Nat.beq k u)) &&
   (bif layB x then (!Nat.ble m0 j||Nat.ble m0 (σ.getD j 0))&&(List.range obT.length).all (fun i=>Nat.beq i j||(Nat.beq i u||((match obT[i]? with | some y=>deadB y | none=>false)||!Nat.beq (σ.getD i 0) (σ.getD j 0)))) else true)
def wkOb (β:Env) (σ:List Nat):Ob→Ob→Eqs
 | .box cs t,.box cs' t'=>[(.n t,.n t'),(.v (.agg (cs.map (Lf.den β)).toArray),.v (.agg (cs'.map (Lf.den (tEq1 β σ))).toArray))]
 | .row cs t n sz,.row cs' t' n' sz'=>[(.n t,.n t'),(.n n,.n n'),(.n sz,.n sz'),(.v (.agg (cs.map (Lf.den β)).toArray),.v (.agg (cs'.map (Lf.den (tEq1 β σ))).toArray))]
 | .ow D t,.ow D' t'=>[(.ob (.ow D t),.ob (.ow D' t'))]
 | .ow D _,.th t'=>[(.ob (.th D),.ob (.th t'))]
 | y,.th t=>[(.ob (y.plain (.th t)),.ob (.th t))]
 | _,_=>[]
def wkObs (β:Env) (obS:List Ob) (σ:List Nat):List Ob→Nat→Eqs
 | [],_=>[]
 | x::r,j=>(match obS[σ.getD j 0]? with | some y=>wkOb β σ y x | none=>(match x with | .dead=>[] | _=>Eqs.no))++wkObs β obS σ r (j+1)
def wkSl (β:Env) (u L:Nat) (σ:List Nat) (slS slT:List (Nat × SV)):Nat→Eqs
 | 0=>[]
 | t+1=>(bif opaqB u t (look slT t) then [] else bif (look slT t).of (fun k=>Nat.blt k L&&!Nat.beq k u) then [(.v ((look slS t).den β),.v ((look slT t).den (tEq1 β σ)))] else Eqs.no)++wkSl β u L σ slS slT t
def pieceE (P:Program) (m0 n:Nat) (s:Option (Stop P)) (u:Nat) (sl:List (Nat × SV)) (ob:List Ob) (σ:List Nat) (β:Env):Eqs :=
 match s with
 | some (.head _ _ f)=>(bif wkB m0 u f.ob ob σ&&Nat.beq f.ev.length 0&&sl.all (fun p=>Nat.blt p.1 n) then [] else Eqs.no)++(wkObs β f.ob σ ob 0++(wkSl β u ob.length σ f.sl (mkC P n u sl ob []).sl n++eqsOf β f.cs))
 | _=>Eqs.no
def lastE (P:Program) (fn:Func) (m0 n:Nat) (res:SV) (outs:List (Nat × Ob)) (s:Option (Stop P)) (β:Env):Eqs :=
 match s with
 | some (.ended f)=>fin1 P fn m0 n res outs f β
 | _=>Eqs.no
theorem Eqs.left {a b:Eqs} (h:Eqs.ok (a++b)):Eqs.ok a:=fun p hp=>h p (List.mem_append.2 (.inl hp))
theorem Eqs.right {a b:Eqs} (h:Eqs.ok (a++b)):Eqs.ok b:=fun p hp=>h p (List.mem_append.2 (.inr hp))
theorem bif_ok {b:Bool} (h:Eqs.ok (bif b then [] else Eqs.no)):b=true:=by
 cases b
 · exact (Eqs.no_ok h).elim
 · rfl
theorem look_none:∀ {l:List (Nat × SV)} {t:Nat},(∀ p∈l,p.1≠t)→look l t=undefS
 | [],_,_=>rfl
 | (k,x)::r,t,h=>by
  unfold look
  rw [show Nat.beq k t=false by rw [Bool.eq_false_iff,ne_eq,Nat.beq_eq]; exact h (k,x) (List.mem_cons_self ..),cond_false]
  exact look_none fun p hp=>h p (List.mem_cons_of_mem _ hp)
theorem wkObs_ok {β:Env} {obS:List Ob} {σ:List Nat}:∀ {obT:List Ob} {i:Nat},Eqs.ok (wkObs β obS σ obT i)→∀ (j:Nat) (x y:Ob),obT[j]?=some x→obS[σ.getD (i+j) 0]?=some y→Eqs.ok (wkOb β σ y x)
 | [],_,_,j,x,y,h,_=>by simp at h
 | z::r,i,h,j,x,y,hx,hy=>by
  unfold wkObs at h
  cases j with
  | zero =>
   simp only [List.getElem?_cons_zero] at hx
   obtain rfl:=Option.some.inj hx
   have:=Eqs.left h
   rw [Nat.add_zero] at hy
   rw [hy] at this
   exact this
  | succ j=>exact wkObs_ok (Eqs.right h) j x y (by simpa using hx) (by rw [show i+1+j=i+(j+1) by omega]; exact hy)
theorem opaqB_eq {u t:Nat} {x:SV} (h:opaqB u t x=true):x=.one (.c (.b (.gh u t))):=by
 unfold opaqB at h
 split at h
 · rw [Bool.and_eq_true,Nat.beq_eq,Nat.beq_eq] at h
   obtain ⟨rfl,rfl⟩:=h
   rfl
 · cases h
theorem wkSl_ok {β:Env} {u L:Nat} {σ:List Nat} {slS slT:List (Nat × SV)}:∀ {n:Nat},Eqs.ok (wkSl β u L σ slS slT n)→∀ t,t<n→look slT t=.one (.c (.b (.gh u t)))∨((look slT t).of (fun k=>Nat.blt k L&&!Nat.beq k u)=true∧(look slS t).den β=(look slT t).den (tEq1 β σ))
 | 0,_,t,h=>by omega
 | n+1,h,t,ht=>by
  unfold wkSl at h
  by_cases e:t=n
  · subst e
    have h:=Eqs.left h
    cases ho:opaqB u t (look slT t) with
    | true=>exact .inl (opaqB_eq ho)
    | false =>
     rw [ho,cond_false] at h
     cases hq:(look slT t).of (fun k=>Nat.blt k L&&!Nat.beq k u) with
     | true =>
      rw [hq,cond_true] at h
      obtain ⟨e,_⟩:=Eqs.cons_ok h
      injection e with e
      exact .inr ⟨rfl,e⟩
     | false=>rw [hq,cond_false] at h; exact (Eqs.no_ok h).elim
  · exact wkSl_ok (Eqs.right h) t (by omega)
theorem layB_iff {x:Ob}:layB x=true↔∃ p,x.layOf=some p:=by
 cases x<;>simp [layB,Ob.layOf]
theorem kind_lay {y x:Ob} (h:kindB y x=true) (hx:layB x=true):layB y=true:=by
 cases y<;>cases x<;>first | rfl | (cases h; done) | (cases hx; done)
theorem kind_dead {y x:Ob} (h:kindB y x=true) (hx:x≠.dead):y≠.dead:=by
 cases y<;>cases x<;>first | (intro e; cases e; done) | (cases h; done) | exact absurd rfl hx
theorem wk_hold {β β':Env} {w:World} {g:Pl} {σ:List Nat} {q:Nat→Bool} {y x:Ob} (hk:kindB y x=true) (he:Eqs.ok (wkOb β σ y x)) (hq:x.of q=true) (hβ:∀ k,q k=true→tEq1 β σ k=β' k) (h:y.holds β w g):x.holds β' w g:=by
 have thc:∀ (y:Ob) (t:Thing),Eqs.ok [(Tm.ob (y.plain (.th t)),Tm.ob (.th t))]→y.holds β w g→(Ob.th t).holds β' w g:=fun y t he h=>by
  obtain ⟨e,_⟩:=Eqs.cons_ok he
  injection e with e
  have:=Ob.plain_holds (x:=.th t) h
  rw [e] at this
  exact this
 cases x with
 | dead=>exact trivial
 | al r D=>cases y<;>(cases hk; done)
 | pl n=>cases y<;>(cases hk; done)
 | th t =>
  cases y<;>first | (cases hk; done) | exact thc _ t he h | skip
  obtain ⟨e,_⟩:=Eqs.cons_ok he
  injection e with e
  injection e with e
  subst e
  exact h.2
 | ow D' t' =>
  cases y<;>first | (cases hk; done) | skip
  obtain ⟨e,_⟩:=Eqs.cons_ok he
  injection e with e
  injection e with e e2
  subst e e2
  exact h
 | box cs' t' =>
  cases y<;>first | (cases hk; done) | skip
  rename_i cs t
  obtain ⟨e1,he⟩:=Eqs.cons_ok he
  obtain ⟨e2,_⟩:=Eqs.cons_ok he
  injection e1 with e1
  injection e2 with e2
  injection e2 with e2
  have e2:=congrArg Array.toList e2
  dsimp only at e2
  subst e1
  have hc:cs'.map (Lf.den (tEq1 β σ))=cs'.map (Lf.den β'):=all_congr hq (Lf.den_congr hβ)
  refine ⟨h.1,?_⟩
  rw [← hc,← e2]
  exact h.2
 | row cs' t' n' sz' =>
  cases y<;>first | (cases hk; done) | skip
  rename_i cs t n sz
  obtain ⟨e1,he⟩:=Eqs.cons_ok he
  obtain ⟨e3,he⟩:=Eqs.cons_ok he
  obtain ⟨e4,he⟩:=Eqs.cons_ok he
  obtain ⟨e2,_⟩:=Eqs.cons_ok he
  injection e1 with e1
  injection e3 with e3
  injection e4 with e4
  injection e2 with e2
  injection e2 with e2
  have e2:=congrArg Array.toList e2
  dsimp only at e2
  subst e1 e3 e4
  have hc:cs'.map (Lf.den (tEq1 β σ))=cs'.map (Lf.den β'):=all_congr hq (Lf.den_congr hβ)
  have hl:cs'.length=cs.length:=by
   have:=congrArg List.length e2
   rw [List.length_map,List.length_map] at this
   exact this.symm
  obtain ⟨h0,cur,h1,h2,h3,h4,h5,h6⟩:=h
  refine ⟨h0,cur,h1,by rw [hl]; exact h2,h3,h4,h5,?_⟩
  rw [← hc,← e2]
  exact h6
theorem wk_sync {P:Program} {m0 n u:Nat} {B0:Bd} {w0:World} {f:Cf P} {sl:List (Nat × SV)} {ob:List Ob} {ev:List (Ev P)} {σ:List Nat} {β:Env} {a:Act} {w:World}
  (hB:wkB m0 u f.ob ob σ=true) (hn:sl.all (fun p=>Nat.blt p.1 n)=true) (hO:Eqs.ok (wkObs β f.ob σ ob 0)) (hS:Eqs.ok (wkSl β u ob.length σ f.sl (mkC P n u sl ob ev).sl n)) (h:Sync P m0 n B0 w0 f β a w) (hBk:B0.k≤m0:=by exact Nat.le_refl _) :
  ∃ β':Env,(∀ k,k<m0→β' k=β k)∧Sync P m0 n B0 w0 (mkC P n u sl ob ev) β' a w:=by
 unfold wkB at hB
 rw [Bool.and_eq_true,Bool.and_eq_true,Bool.and_eq_true,Bool.and_eq_true,Nat.beq_eq,Nat.ble_eq,Nat.blt_eq] at hB
 obtain ⟨⟨⟨⟨hlen,hmu⟩,hul⟩,hid⟩,hall⟩:=hB
 have hσ:∀ i,i<m0→σ.getD i 0=i:=fun i hi=>Nat.eq_of_beq_eq_true (List.all_eq_true.1 hid i (List.mem_range.2 hi))
 obtain ⟨β',hβ⟩:∃ β':Env,β'=fun j=>if j=u then ⟨0,fun _=>none,fun _=>0,fun _=>False,fun t=>a.tmps.getD t undef⟩ else β (σ.getD j 0):=⟨_,rfl⟩
 have hβu:β' u=⟨0,fun _=>none,fun _=>0,fun _=>False,fun t=>a.tmps.getD t undef⟩:=by rw [hβ]; exact if_pos rfl
 have hβo:∀ j,j≠u→β' j=β (σ.getD j 0):=fun j hj=>by rw [hβ]; exact if_neg hj
 have hβm:∀ k,k<m0→β' k=β k:=fun k hk=>by rw [hβo k (by omega),hσ k hk]
 have hq:∀ k,(Nat.blt k ob.length&&!Nat.beq k u)=true→tEq1 β σ k=β' k:=fun k hk=>by
  rw [Bool.and_eq_true,Bool.not_eq_true',Nat.blt_eq] at hk
  rw [hβo k (fun e=>by rw [e,Nat.beq_refl] at hk; cases hk.2)]
  rfl
 have hmono:∀ k,(Nat.blt k ob.length&&!Nat.beq k u)=true→Nat.blt k ob.length=true:=fun k hk=>by rw [Bool.and_eq_true] at hk; exact hk.1
 have hsrc:∀ (j:Nat) (x:Ob),ob[j]?=some x→(j=u→x=.dead)∧(j≠u→∃ y,f.ob[σ.getD j 0]?=some y∧kindB y x=true∧x.of (fun k=>Nat.blt k ob.length&&!Nat.beq k u)=true)∧(layB x=true→(m0≤j→m0≤σ.getD j 0)∧∀ (i:Nat) (y:Ob),ob[i]?=some y→y≠.dead→i≠j→i≠u→σ.getD i 0≠σ.getD j 0):=by
  intro j x hx
  have hj:j<ob.length:=(List.getElem?_eq_some_iff.1 hx).1
  have hc:=List.all_eq_true.1 hall j (List.mem_range.2 hj)
  rw [hx] at hc
  dsimp only at hc
  rw [Bool.and_eq_true] at hc
  obtain ⟨hc1,hc2⟩:=hc
  refine ⟨fun e=>?_,fun e=>?_,fun hl=>?_⟩
  · rw [e,Nat.beq_refl,cond_true] at hc1
    cases x<;>first | rfl | (cases hc1; done)
  · rw [show Nat.beq j u=false by rw [Bool.eq_false_iff,ne_eq,Nat.beq_eq]; exact e,cond_false] at hc1
    split at hc1
    · cases hc1
    · rename_i y hy
      rw [Bool.and_eq_true] at hc1
      exact ⟨y,hy,hc1.1,hc1.2⟩
  · rw [hl,cond_true,Bool.and_eq_true,Bool.or_eq_true] at hc2
    refine ⟨fun hm=>?_,fun i y hy hd hij hiu e=>?_⟩
    · rcases hc2.1 with h1 | h1
      · rw [Bool.not_eq_true',Bool.eq_false_iff,ne_eq,Nat.ble_eq] at h1
        exact absurd hm h1
      · exact Nat.le_of_ble_eq_true h1
    · have hi:i<ob.length:=(List.getElem?_eq_some_iff.1 hy).1
      have h1:=List.all_eq_true.1 hc2.2 i (List.mem_range.2 hi)
      rw [hy,Bool.or_eq_true,Bool.or_eq_true,Bool.or_eq_true,Nat.beq_eq,Nat.beq_eq,e,Nat.beq_refl] at h1
      rcases h1 with h1 | h1 | h1 | h1
      · exact hij h1
      · exact hiu h1
      · refine hd ?_
        cases y<;>first | rfl | (cases h1; done)
      · cases h1
 have hex:∀ {k:Nat} {y:Ob},f.ob[k]?=some y→f.q k=true:=fun {k y} hy=>(h.q k).2 (List.getElem?_eq_some_iff.1 hy).1
 have hob:∀ {k:Nat},Nat.blt k ob.length=true→∃ x,ob[k]?=some x:=fun {k} hk=>⟨_,List.getElem?_eq_getElem (by rw [Nat.blt_eq] at hk; exact hk)⟩
 have hfree:∀ {k:Nat} {x:Ob},ob[k]?=some x→Free (fun k=>Nat.blt k ob.length) (fun k=>ob[k]?) k→layB x=true∧k≠u:=fun {k x} hx hf=>by
  rcases hf with ⟨x',e,p,hp⟩ | ⟨⟨m,e⟩,_⟩
  · dsimp only at e
    rw [hx] at e
    obtain rfl:=Option.some.inj e
    refine ⟨layB_iff.2 ⟨p,hp⟩,fun e=>?_⟩
    rw [(hsrc k x hx).1 e] at hp
    cases hp
  · dsimp only at e
    rw [hx] at e
    obtain rfl:=Option.some.inj e
    exfalso
    by_cases ek:k=u
    · have:=(hsrc k _ hx).1 ek
      cases this
    · obtain ⟨y,_,hk,_⟩:=(hsrc k _ hx).2.1 ek
      cases y<;>(cases hk; done)
 have hlayS:∀ {k:Nat} {x:Ob},ob[k]?=some x→layB x=true→k≠u→f.q (σ.getD k 0)=true∧Free f.q (fun k=>f.ob[k]?) (σ.getD k 0):=fun {k x} hx hl hku=>by
  obtain ⟨y,hy,hk,_⟩:=(hsrc k x hx).2.1 hku
  obtain ⟨p,hp⟩:=layB_iff.1 (kind_lay hk hl)
  exact ⟨hex hy,Free.lay hy hp⟩
 refine ⟨β',hβm,⟨⟨h.good.bel,h.good.le,?_,?_,?_,?_,?_,?_,?_,?_,?_⟩,fun k=>by dsimp only [mkC]; rw [Nat.blt_eq],⟨h.sl.1,fun t=>?_⟩,fun t=>?_,?_,h.defers,?_⟩⟩
 ·
  intro k o hk hko
  dsimp only [mkC] at hk hko ⊢
  by_cases e:k=u
  · rw [(hsrc k o hko).1 e]
    exact ⟨trivial,rfl⟩
  · obtain ⟨y,hy,hkd,hof⟩:=(hsrc k o hko).2.1 e
    have hh:=(h.good.hold _ y (hex hy) hy).1
    refine ⟨?_,Ob.of_mono hmono _ hof⟩
    rw [hβo k e]
    refine wk_hold hkd (wkObs_ok hO k o y hko ?_) hof hq hh
    rw [Nat.zero_add]
    exact hy
 ·
  intro k hk c hc
  dsimp only [mkC] at hk
  by_cases e:k=u
  · rw [e,hβu] at hc; exact hc.elim
  · rw [hβo k e] at hc
    obtain ⟨x,hx⟩:=hob hk
    obtain ⟨y,hy,_⟩:=(hsrc k x hx).2.1 e
    exact h.good.lt _ (hex hy) c hc
 ·
  intro k j hk hj hne hm hf hd
  dsimp only [mkC] at hk hj hf hd
  obtain ⟨x,hx⟩:=hob hk
  obtain ⟨z,hz⟩:=hob hj
  obtain ⟨hl,hku⟩:=hfree hx hf
  by_cases e:j=u
  · rw [e,hβu]; exact fun hc=>hc.elim
  · obtain ⟨hs1,hs2⟩:=hlayS hx hl hku
    obtain ⟨hm2,hdis⟩:=(hsrc k x hx).2.2 hl
    obtain ⟨y,hy,hkd,_⟩:=(hsrc j z hz).2.1 e
    have hzd:z≠.dead:=fun e=>hd (by rw [hz,e])
    rw [hβo k hku,hβo j e]
    exact h.good.ne _ _ hs1 (hex hy) (hdis j z hz hzd hne e) (hm2 hm) hs2 (fun e=>kind_dead hkd hzd (Option.some.inj (hy.symm.trans e)))
 ·
  intro k x hk hm hx hmi
  dsimp only [mkC] at hk hx
  obtain ⟨hl,hku⟩:layB x=true∧k≠u:=by
   refine ⟨?_,fun e=>by rw [(hsrc k x hx).1 e] at hmi; cases hmi⟩
   cases x<;>first | (cases hmi; done) | exact layB_iff.2 ⟨_,rfl⟩ | skip
   exfalso
   by_cases ek:k=u
   · have:=(hsrc k _ hx).1 ek
     cases this
   · obtain ⟨y,_,hk,_⟩:=(hsrc k _ hx).2.1 ek
     cases y<;>(cases hk; done)
  obtain ⟨hs1,hs2⟩:=hlayS hx hl hku
  rw [hβo k hku]
  exact h.good.low _ hs1 (((hsrc k x hx).2.2 hl).1 hm) hs2
 ·
  intro k hk hm c hc
  dsimp only [mkC] at hk
  by_cases e:k=u
  · rw [e,hβu] at hc; exact hc.elim
  · rw [hβo k e] at hc
    obtain ⟨x,hx⟩:=hob hk
    obtain ⟨y,hy,_⟩:=(hsrc k x hx).2.1 e
    by_cases hs:m0≤σ.getD k 0
    · exact (h.good.fr _ (hex hy) hs c hc).imp id fun ⟨i,i1,i2⟩=>⟨i,i1,by rw [hβm i i1]; exact i2⟩
    · exact .inr ⟨σ.getD k 0,by omega,by rw [hβm _ (by omega)]; exact hc⟩
 · intro i hi
   dsimp only [mkC]
   rw [Nat.blt_eq]
   omega
 · intro k r D hk ho
   dsimp only [mkC] at ho
   exfalso
   by_cases e:k=u
   · have:=(hsrc k _ ho).1 e
     cases this
   · obtain ⟨y,_,hkd,_⟩:=(hsrc k _ ho).2.1 e
     cases y<;>(cases hkd; done)
 · intro k r D hk ho
   dsimp only [mkC] at ho
   exfalso
   by_cases e:k=u
   · have:=(hsrc k _ ho).1 e
     cases this
   · obtain ⟨y,_,hkd,_⟩:=(hsrc k _ ho).2.1 e
     cases y<;>(cases hkd; done)
 · intro k i hk hi hlt hm hd hp
   dsimp only [mkC] at hp
   obtain ⟨M,hp⟩:=hp
   exfalso
   by_cases e:i=u
   · have:=(hsrc i _ hp).1 e
     cases this
   · obtain ⟨y,_,hkd,_⟩:=(hsrc i _ hp).2.1 e
     cases y<;>(cases hkd; done)
 ·
  by_cases ht:t<n
  · rcases wkSl_ok hS t ht with e | ⟨e1,e2⟩
    · rw [e]
      show _=(β' u).u t
      rw [hβu]
    · rw [h.sl.2 t,e2]
      exact SV.den_congr hq _ e1
  · have hl:look (mkC P n u sl ob ev).sl t=undefS:=look_none fun p hp=>by
     rcases List.mem_append.1 hp with hp | hp
     · have:=List.all_eq_true.1 hn p hp
       rw [Nat.blt_eq] at this
       omega
     · obtain ⟨t',ht',rfl⟩:=List.mem_map.1 hp
       have:=List.mem_range.1 ht'
       dsimp only
       omega
    rw [hl]
    show a.tmps.getD t undef=undef
    rw [Array.getD_eq_getD_getElem?,Array.getElem?_eq_none (by rw [h.sl.1]; omega)]
    rfl
 · by_cases ht:t<n
   · rcases wkSl_ok hS t ht with e | ⟨e1,e2⟩
     · rw [e]
       show Nat.blt u ob.length=true
       rw [Nat.blt_eq]; exact hul
     · exact SV.of_mono hmono _ e1
   · have hl:look (mkC P n u sl ob ev).sl t=undefS:=look_none fun p hp=>by
      rcases List.mem_append.1 hp with hp | hp
      · have:=List.all_eq_true.1 hn p hp
        rw [Nat.blt_eq] at this
        omega
      · obtain ⟨t',ht',rfl⟩:=List.mem_map.1 hp
        have:=List.mem_range.1 ht'
        dsimp only
        omega
     rw [hl]; rfl
 · show m0≤ob.length∧B0.k≤ob.length
   omega
 · intro k j i D D' h1 h2
   exfalso
   by_cases e:k=u
   · have:=(hsrc k _ h1).1 e
     cases this
   · obtain ⟨y,_,hkd,_⟩:=(hsrc k _ h1).2.1 e
     cases y<;>(cases hkd; done)
def HdOk (P:Program) (m0 n:Nat) (N:Nat) (w0:World) (β0:Env) (Q:Exit→Act→World→Prop) (C:Cf P) (p:Code × List Kf):Prop :=
 ∀ (β:Env) (a:Act) (w:World),(∀ k,k<m0→β k=β0 k)→Sync P m0 n (bd0 N m0) w0 C β a w→Rounds P p.1 (post P Q p.2) a w
theorem pieceE_parts {P:Program} {m0 n:Nat} {c:Code} {ks:List Kf} {f:Cf P} {u:Nat} {sl:List (Nat × SV)} {ob:List Ob} {σ:List Nat} (ev:List (Ev P)) (he:∀ β,Eqs.ok (pieceE P m0 n (some (.head c ks f)) u sl ob σ β)) :
  f.good∧∀ {N:Nat} {w0:World} {β:Env} {a:Act} {w:World},Sync P m0 n (bd0 N m0) w0 f β a w→∃ β':Env,(∀ k,k<m0→β' k=β k)∧Sync P m0 n (bd0 N m0) w0 (mkC P n u sl ob ev) β' a w:=by
 refine ⟨fun β x hx=>eqsOf_ok (Eqs.right (Eqs.right (Eqs.right (he β)))) x hx,fun {N w0 β a w} hs=>?_⟩
 have h:=he β
 have h1:=bif_ok (Eqs.left h)
 rw [Bool.and_eq_true,Bool.and_eq_true] at h1
 exact wk_sync h1.1.1 h1.2 (Eqs.left (Eqs.right h)) (Eqs.left (Eqs.right (Eqs.right h))) hs
theorem piece_ok {P:Program} {m0 n:Nat} {N:Nat} {w0:World} {β0:Env} {Q:Exit→Act→World→Prop} {Ns:List (Nat × Nat)} {m:Nat} {C:Cf P} {p p':Code × List Kf} {u:Nat} {sl:List (Nat × SV)} {ob:List Ob} (ev:List (Ev P)) (σ:List Nat) (hm:P.follows .mixedOrders=true)
  (hp:(runP P m0 n Ns m (some p.1) (.lp p.1::p.2) C).bind Stop.pos=some p') (he:∀ β,Eqs.ok (pieceE P m0 n (runP P m0 n Ns m (some p.1) (.lp p.1::p.2) C) u sl ob σ β))
  (hH:HdOk P m0 n N w0 β0 Q (mkC P n u sl ob ev) p'):HdOk P m0 n N w0 β0 Q C p:=by
 intro β a w hβ hs
 cases hr:runP P m0 n Ns m (some p.1) (.lp p.1::p.2) C with
 | none=>rw [hr] at hp; cases hp
 | some s =>
  rw [hr] at hp he
  cases s with
  | ended f=>cases hp
  | head c ks f =>
   obtain rfl:(c,ks)=p':=Option.some.inj hp
   obtain ⟨hg,hw⟩:=pieceE_parts ev he
   obtain ⟨_,_,r3⟩:=runP_ok hm _ _ _ _ _ hr ⟨hs.q,hs.uq⟩
   refine rounds_one (r3 hg hs Q fun β' a' w' e s'=>?_)
   obtain ⟨β'',e2,s2⟩:=hw s'
   exact hH β'' a' w' (fun k hk=>(e2 k hk).trans ((e k hk).trans (hβ k hk))) s2
def Said (P:Program) (fn:Func) (m0:Nat) (res:SV) (outs:List (Nat × Ob)) (β:Env) (w:World) (e:Ending) (w':World):Prop :=
 ∃ (β':Env) (q:Nat→Bool) (obj:Nat→Option Ob),(∀ k,k<m0→β' k=β k)∧e=.returned (res.den β')∧res.of q=true∧(∀ p∈outs,∀ c,(β' p.1).F c→w.heap.size≤c∨∃ i,i<m0∧(β i).F c)∧holdsAll β' w' outs∧Fin w w'
theorem fin1_parts {P:Program} {fn:Func} {m0 n:Nat} {res:SV} {outs:List (Nat × Ob)} {f:Cf P} (h:∀ β,Eqs.ok (fin1 P fn m0 n res outs f β)):f.good∧∀ {β0:Env} {w:World} {β':Env} {a':Act} {w':World},(∀ k,k<m0→β' k=β0 k)→Sync P m0 n (bd0 w.heap.size m0) w f β' a' w' →
  bodyPost P fn (Said P fn m0 res outs β0 w) .normal a' w'∧bodyPost P fn (Said P fn m0 res outs β0 w) .ret a' w':=by
 have fin:∃ r:R1 Value,run1 P m0 false (results fn (tmpsS idE f.sl n)) f.q f.ob []=some r∧res.of f.q=true∧r.ob.length=f.ob.length ∧
   ∀ β,Eqs.ok (chk P β (results fn (tmpsS β f.sl n)) r.tr.reverse (fun u=>[(.v u,.v (res.den β))])++(needEqs f.q f.ob outs++eqsOf β f.cs)):=by
  cases hx:run1 P m0 false (results fn (tmpsS idE f.sl n)) f.q f.ob [] with
  | none=>have:=h idE; unfold fin1 at this; rw [hx] at this; exact (Eqs.no_ok this).elim
  | some r =>
   obtain ⟨ra,rq,rob,rtr⟩:=r
   cases hc:(res.of f.q&&Nat.beq rob.length f.ob.length&&Nat.beq f.ev.length 0) with
   | false=>have:=h idE; unfold fin1 at this; rw [hx] at this; dsimp only at this; rw [hc] at this; exact (Eqs.no_ok this).elim
   | true =>
    have h3:=hc
    simp only [Bool.and_eq_true,Nat.beq_eq] at hc
    refine ⟨_,rfl,hc.1.1,hc.1.2,fun β=>?_⟩
    have:=h β
    unfold fin1 at this
    rw [hx] at this
    dsimp only at this
    rw [h3] at this
    exact this
 obtain ⟨r,f1,f2,f3,f4⟩:=fin
 refine ⟨fun β x hx=>eqsOf_ok (fun p hp=>f4 β p (List.mem_append.2 (.inr (List.mem_append.2 (.inr hp))))) x hx,?_⟩
 intro β0 w β' a' w' e s
 obtain ⟨h5,_,_,tr,h8,h9⟩:=run1_ok _ _ _ _ _ f1 (fun k hk=>(s.q k).1 hk)
 obtain ⟨k1,obj',k2,k3,k4⟩:=h9 _ _ _ _ _ _ s.good (fun k hk=>⟨hk,rfl⟩) (fun k a b=>by omega) s.m0.1
 have h6:=f4 β'
 rw [h8,List.append_nil,List.reverse_reverse] at h6
 have h7:Eqs.ok (chk P β' (results fn (tmpsS β' f.sl n)) tr (fun u=>[(.v u,.v (res.den β'))])):=fun p hp=>h6 p (List.mem_append.2 (.inl hp))
 obtain ⟨v,hv,hv2⟩:=chk_run _ _ _ h7 k1
 obtain ⟨e1,_⟩:=Eqs.cons_ok hv2
 injection e1 with e1
 subst e1
 rw [f3,rangeQ_self] at k4
 have hend:trEnd β' w' tr=w':=by
  obtain ⟨tr2,x1,x2⟩:=run1_still _ _ _ _ _ f1 (fun k hk=>(s.q k).1 hk) f3
  rw [h8,List.append_nil,List.append_nil] at x1
  rw [List.reverse_inj.1 x1]
  exact x2 β' w'
 rw [hend] at hv k4
 rw [← tmps_eq s.sl] at hv
 have hout:∀ p:Nat × Ob,f.q p.1=true→∀ c,(β' p.1).F c→w.heap.size≤c∨∃ i,i<m0∧(β0 i).F c:=fun p hp c hc=>by
  by_cases h0:m0≤p.1
  · exact (s.good.fr p.1 hp h0 c hc).imp (fun a=>a.elim (fun a=>a.elim id False.elim) False.elim) fun ⟨i,i1,i2⟩=>⟨i,i1,by rw [← e i i1]; exact i2⟩
  · exact .inr ⟨p.1,by omega,by rw [← e p.1 (by omega)]; exact hc⟩
 have hneed:Eqs.ok (needEqs f.q f.ob outs):=fun p hp=>f4 β' p (List.mem_append.2 (.inr (List.mem_append.2 (.inl hp))))
 have hres:bodyPost P fn (Said P fn m0 res outs β0 w) .normal a' w':=⟨s.defers,_,hv,β',f.q,obj',e,rfl,f2,fun p hp c hc=>hout p (needs_q _ hneed p hp) c hc,needs_hold s.good (fun k hk=>⟨hk,rfl⟩) _ hneed,⟨k4.bel.below⟩⟩
 exact ⟨hres,hres⟩
theorem last_ok {P:Program} {fn:Func} {m0 n:Nat} {w:World} {β0:Env} {res:SV} {outs:List (Nat × Ob)} {Ns:List (Nat × Nat)} {m:Nat} {C:Cf P} {p:Code × List Kf} (hm:P.follows .mixedOrders=true)
  (he:∀ β,Eqs.ok (lastE P fn m0 n res outs (runP P m0 n Ns m (some p.1) (.lp p.1::p.2) C) β)):HdOk P m0 n w.heap.size w β0 (bodyPost P fn (Said P fn m0 res outs β0 w)) C p:=by
 intro β a w1 hβ hs
 cases hr:runP P m0 n Ns m (some p.1) (.lp p.1::p.2) C with
 | none=>have:=he idE; rw [hr] at this; exact (Eqs.no_ok this).elim
 | some s =>
  rw [hr] at he
  cases s with
  | head c ks f=>exact (Eqs.no_ok (he idE)).elim
  | ended f =>
   obtain ⟨hg,hw⟩:=fin1_parts he
   obtain ⟨_,_,r3⟩:=runP_ok hm _ _ _ _ _ hr ⟨hs.q,hs.uq⟩
   exact rounds_one (r3 hg hs _ fun β' a' w' e s'=>hw (fun k hk=>(e k hk).trans (hβ k hk)) s')
def startP (P:Program) (fn:Func) (args:List SV) (obs:List Ob) (evs:List (Ev P)) (Ns:List (Nat × Nat)) (m:Nat):Option (Stop P):=match fn.body with
 | some c=>runP P obs.length (sizeS fn args) Ns m (some c) [] ⟨startS args 0,fun k=>Nat.blt k obs.length,obs,evs,[]⟩
 | none=>none
theorem sx_cut {P:Program} {f:FuncId} {fn:Func} (args:List SV) (obs:List Ob) (evs ev:List (Ev P)) (Ns:List (Nat × Nat)) (m:Nat) (res:SV) (outs:List (Nat × Ob)) (hf:P.funcs[f]?=some fn) (hm:P.follows .mixedOrders=true) {u:Nat} {sl:List (Nat × SV)} {ob:List Ob} {σ:List Nat} {p':Code × List Kf}
  (hp:(startP P fn args obs evs Ns m).bind Stop.pos=some p') (he:∀ β,Eqs.ok (pieceE P obs.length (sizeS fn args) (startP P fn args obs evs Ns m) u sl ob σ β))
  (hargs:args.all (SV.of fun k=>Nat.blt k obs.length)=true) (hobs:obs.all (fun x=>x.of (fun k=>Nat.blt k obs.length)&&x.own)=true) (β:Env) (w:World) (hh:∀ (k:Nat) (o:Ob),obs[k]?=some o→o.holds β w (β k))
  (hH:HdOk P obs.length (sizeS fn args) w.heap.size w β (bodyPost P fn (Said P fn obs.length res outs β w)) (mkC P (sizeS fn args) u sl ob ev) p') :
  Calls P f (args.map (SV.den β)).toArray w (Said P fn obs.length res outs β w):=by
 have hnal:∀ (k r:Nat) (D:Thing),obs[k]?≠some (.al r D):=fun k r D ho=>by
  have:=List.all_eq_true.1 hobs _ (List.mem_of_getElem? ho)
  simp [Ob.own] at this
 have huq:UniqAl obs:=fun k j i D _ h1 _=>absurd h1 (hnal k i D)
 have hlt:∀ k,k<obs.length→∀ c,(β k).F c→c<w.heap.size:=fun k hk c hc=>by
  have h:=hh k _ (List.getElem?_eq_getElem hk)
  cases hx:obs[k] with
  | box cs t=>rw [hx] at h; rw [(h.1.1 c).1 hc]; exact heap_lt h.2
  | th D=>rw [hx] at h; exact D.st.lt _ _ h c hc
  | al r D=>rw [hx] at h; exact D.st.lt _ _ h c hc
  | pl n=>rw [hx] at h; rw [(h.1.1 c).1 hc]; exact h.2.lt
  | row cs t n sz=>rw [hx] at h; rw [(h.1.1 c).1 hc]; exact heap_lt h.2.choose_spec.1
  | ow D t=>rw [hx] at h; exact D.st.lt _ _ h.2 c hc
  | dead =>
   have:=List.all_eq_true.1 hobs _ (List.mem_of_getElem? (List.getElem?_eq_getElem hk))
   rw [hx] at this
   simp [Ob.own] at this
 cases hb:fn.body with
 | none=>unfold startP at hp; rw [hb] at hp; cases hp
 | some c =>
  have hst:startP P fn args obs evs Ns m=runP P obs.length (sizeS fn args) Ns m (some c) [] ⟨startS args 0,fun k=>Nat.blt k obs.length,obs,evs,[]⟩:=by unfold startP; rw [hb]
  rw [hst] at hp he
  cases hr:runP P obs.length (sizeS fn args) Ns m (some c) [] ⟨startS args 0,fun k=>Nat.blt k obs.length,obs,evs,[]⟩ with
  | none=>rw [hr] at hp; cases hp
  | some s =>
   rw [hr] at hp he
   cases s with
   | ended f=>cases hp
   | head c1 ks1 f1 =>
    obtain rfl:(c1,ks1)=p':=Option.some.inj hp
    obtain ⟨hg,hw⟩:=pieceE_parts ev he
    obtain ⟨_,_,r3⟩:=runP_ok hm _ _ _ _ _ hr ⟨fun k=>by dsimp only; rw [Nat.blt_eq],huq⟩
    refine calls_of_wp hf hb (r3 hg (B0:=bd0 w.heap.size obs.length) (w0:=w) (β:=β) ⟨⟨Keep.refl _ _,Nat.le_refl _,fun k o hk ho=>⟨hh k o ho,(Bool.and_eq_true _ _▸List.all_eq_true.1 hobs o (List.mem_of_getElem? ho)).1⟩,fun k hk=>hlt k (by simpa [Nat.blt_eq] using hk),fun k j hk _ _ hm=>?_,fun k _ hk hm=>?_,fun k hk hm=>?_,fun i hi=>by rw [Nat.blt_eq]; exact hi,fun k r D _ ho=>?_,fun k r D _ ho=>absurd ho (hnal k r D),fun k i _ hi _ hm=>by rw [Nat.blt_eq] at hi; omega⟩,fun k=>by dsimp only; rw [Nat.blt_eq],⟨?_,fun t=>?_⟩,fun t=>?_,⟨Nat.le_refl _,Nat.le_refl _⟩,rfl,huq⟩ _ fun β' a' w' e s=>?_)
    · rw [Nat.blt_eq] at hk; omega
    · rw [Nat.blt_eq] at hk; omega
    · rw [Nat.blt_eq] at hk; omega
    · exact absurd ho (hnal k r D)
    · simp [sizeS]
    · rw [look_start,if_pos (Nat.zero_le _),Nat.sub_zero]
      simp only [Array.getD_eq_getD_getElem?,Array.getElem?_append,List.size_toArray,List.length_map,List.getElem?_toArray,List.getElem?_map]
      split
      · rename_i hlt2
        rw [List.getElem?_eq_getElem hlt2]
        rfl
      · rename_i hge
        rw [List.getElem?_eq_none (by omega)]
        simp [Array.getElem?_replicate]
        split<;>rfl
    · dsimp only
      rw [look_start,if_pos (Nat.zero_le _),Nat.sub_zero]
      cases hx:args[t]? with
      | none=>rfl
      | some x=>exact List.all_eq_true.1 hargs x (List.mem_of_getElem? hx)
    · obtain ⟨β'',e2,s2⟩:=hw s
      exact hH β'' a' w' (fun k hk=>(e2 k hk).trans (e k hk)) s2
end Go.Proofs.YtmfedaakeeiolaaGreat.Y
end
section
namespace Go.Proofs.YtmfedaakeeiolaaGreat.Y
open Go Go.RowKit
set_option maxRecDepth 100000
abbrev dgL (n:Nat):Nat:=(dig n).length
def WD (n:Nat) (w:World) (g:Pl):Prop:=Words w (.slice (g.v 0) (dgL n) (g.c 0)) (dig n)∧∀ c,¬ g.F c
theorem wd_stable (n:Nat):Stable (WD n) :=
 ⟨fun w g h c hc=>absurd hc (h.2 c),fun w w' g h hb=>⟨h.1.below hb,h.2⟩,fun w w' g b o k m h hs ht _=>⟨h.1.touchN hs ht,h.2⟩⟩
def wdT (n:Nat):Thing:=thing (WD n) (wd_stable n)
abbrev wdPl (A:Option Addr) (c:Nat):Pl:=⟨0,fun _=>A,fun _=>c,fun _=>False,fun _=>undef⟩
abbrev wdS (k n:Nat):SV:=.one (.c (.b (.y k 0 (dgL n))))
theorem wd_of {w:World} {v:Value} {n:Nat} (h:Words w v (dig n)):∃ A c,v=.slice A (dgL n) c∧WD n w (wdPl A c):=by
 obtain ⟨A,c,rfl,_⟩:=h.shape
 exact ⟨A,c,rfl,h,fun _ h=>h⟩
theorem wd_fresh {β:Env} {w:World} {n:Nat} {A:Option Addr} {c:Nat}:freshS β w n [wdPl A c]:=fun x hx c hc=>by
 obtain rfl:=List.mem_singleton.1 hx
 exact hc.elim
def sRWords (n:Nat) (hm:(mag n).size≤4294967296):Spec Tryz.prog :=
 ⟨259,Tryz.call259,[.one (.c (.b (.v (.string (mag n)))))],[],wdS 0 n,[wdT n],fun β w _=>(words_any (mag n) n rfl hm).mono fun e w' ⟨A,c,he,h,hb⟩=>⟨[wdPl A c],wd_fresh,by rw [he]; rfl,⟨⟨h,fun _ h=>h⟩,trivial⟩,hb⟩,by kernel_rfl⟩
theorem bits_uniq {m L K:Nat} (h:Bits m L) (k:Bits m K):L=K:=by
 have key:∀ {a b:Nat},Bits m a→Bits m b→a≤b:=fun {a b} ha hb=>by
  rcases Nat.lt_or_ge b a with hlt | hge
  · exfalso
    have h1:=ha.2 (by omega)
    have h2:2^b≤2^(a-1):=Nat.pow_le_pow_right (by decide) (by omega)
    have:=hb.1
    omega
  · exact hge
 exact Nat.le_antisymm (key h k) (key k h)
def sRBits {n L:Nat} (hL:Bits n L):Spec Tryz.prog :=
 ⟨347,Tryz.call347,[wdS 0 n],[wdT n],.one (.c (.b (.v (.int .i64 (L:Int))))),[],fun β w hh=>by
  have h0:WD n w (β 0):=hh 0 _ rfl
  refine (rbits_any h0.1).mono fun e w' ⟨K,he,hK,_,hb⟩=>⟨[],(fun _ h=>by cases h),?_,trivial,hb⟩
  obtain rfl:=bits_uniq hK hL
  rw [he]
  rfl,by kernel_rfl⟩
section
variable {x y:Nat} (hx:dgL x≤8589934592) (hy:dgL y≤8589934592)
def sRMore:Spec Tryz.prog :=
 ⟨337,Tryz.call337,[wdS 0 x,wdS 1 y],[wdT x,wdT y],wdS 2 (x+y),[wdT (x+y)],fun β w hh=>by
  have h0:WD x w (β 0):=hh 0 _ rfl
  have h1:WD y w (β 1):=hh 1 _ rfl
  refine (rmore_any h0.1 h1.1 hx hy).mono fun e w' ⟨v,he,hv,hb⟩=>?_
  rw [val_dig,val_dig] at hv
  obtain ⟨A,c,rfl,h2⟩:=wd_of hv
  exact ⟨[wdPl A c],wd_fresh,by rw [he]; rfl,⟨h2,trivial⟩,hb⟩,by kernel_rfl⟩
abbrev nilW:SV:=.one (.c (.b (.v (.slice none 0 0))))
def sRMore0:Spec Tryz.prog :=
 ⟨337,Tryz.call337,[nilW,wdS 0 y],[wdT y],wdS 1 y,[wdT y],fun β w hh=>by
  have h1:WD y w (β 0):=hh 0 _ rfl
  refine (rmore_any (Words.nil w) h1.1 (by decide) hy).mono fun e w' ⟨v,he,hv,hb⟩=>?_
  rw [val_dig,show val []=0 from rfl,Nat.zero_add] at hv
  obtain ⟨A,c,rfl,h2⟩:=wd_of hv
  exact ⟨[wdPl A c],wd_fresh,by rw [he]; rfl,⟨h2,trivial⟩,hb⟩,by kernel_rfl⟩
def sRProd:Spec Tryz.prog :=
 ⟨260,Tryz.call260,[wdS 0 x,wdS 0 x],[wdT x],wdS 1 (x*x),[wdT (x*x)],fun β w hh=>by
  have h0:WD x w (β 0):=hh 0 _ rfl
  refine (rproduct_any h0.1 h0.1 hx hx).mono fun e w' ⟨v,he,hv,hb⟩=>?_
  rw [val_dig] at hv
  obtain ⟨A,c,rfl,h2⟩:=wd_of hv
  exact ⟨[wdPl A c],wd_fresh,by rw [he]; rfl,⟨h2,trivial⟩,hb⟩,by kernel_rfl⟩
def sRUnder (x y:Nat):Spec Tryz.prog :=
 ⟨258,Tryz.call258,[wdS 0 x,wdS 1 y],[wdT x,wdT y],.one (.c (.b (.v (.int .i64 (cmpN x y))))),[],fun β w hh=>by
  have h0:WD x w (β 0):=hh 0 _ rfl
  have h1:WD y w (β 1):=hh 1 _ rfl
  exact (runder_any h0.1 h1.1).mono fun e w' ⟨he,hd⟩=>⟨[],(fun _ h=>by cases h),by rw [he]; rfl,trivial,hd.below _⟩,by kernel_rfl⟩
def sRLess (hle:y≤x):Spec Tryz.prog :=
 ⟨338,Tryz.call338,[wdS 0 x,wdS 1 y],[wdT x,wdT y],wdS 2 (x-y),[wdT (x-y)],fun β w hh=>by
  have h0:WD x w (β 0):=hh 0 _ rfl
  have h1:WD y w (β 1):=hh 1 _ rfl
  refine (rless_any h0.1 h1.1 hx (by rw [val_dig,val_dig]; exact hle) (dig_len_mono _ _ hle)).mono fun e w' ⟨v,he,hv,hb⟩=>?_
  rw [val_dig,val_dig] at hv
  obtain ⟨A,c,rfl,h2⟩:=wd_of hv
  exact ⟨[wdPl A c],wd_fresh,by rw [he]; rfl,⟨h2,trivial⟩,hb⟩,by kernel_rfl⟩
end
abbrev whS (m:Nat):SV:=.one (.a [.b (.v (.bool false)),.b (.v (.string (mag m)))])
theorem whole_nat (m:Nat):wholeV (m:Int)=.agg #[.bool false,.string (mag m)]:=by
 unfold wholeV
 rw [decide_eq_false (by omega:¬ ((m:Int)<0)),Int.natAbs_natCast]
def sRMade {x:Nat} (hx:dgL x≤4294967296):Spec Tryz.prog :=
 ⟨247,Tryz.call247,[.one (.c (.b (.v (.bool false)))),wdS 0 x],[wdT x],whS x,[],fun β w hh=>by
  have h0:WD x w (β 0):=hh 0 _ rfl
  refine (made_any false h0.1 hx).mono fun e w' ⟨he,hb⟩=>⟨[],(fun _ h=>by cases h),?_,trivial,hb⟩
  rw [he,val_dig,show sg false x=(x:Int) from rfl,whole_nat]
  rfl,by kernel_rfl⟩
def sRUp1 (k:Nat) (hk:k≤137438953472):CSpec Tryz.prog :=
 ⟨348,Tryz.call348,[.one (.c (.b (.s 0 0 1 1))),.one (.c (.b (.v (.int .i64 (k:Int)))))],[.b (.v (.int .u32 1))],284,wdS 1 (2^k),[wdT (2^k)],fun β w hh=>by
  have hw:Words w (.slice (some ⟨(β 0).b,0,none⟩) 1 1) [1]:=⟨by intro x hx; obtain rfl:=List.mem_singleton.1 hx; decide,by decide,some ⟨(β 0).b,0,none⟩,1,rfl,Nat.le_refl _,fun _=>⟨(β 0).b,0,_,_,rfl,hh.2,fun i hi=>by
   obtain rfl:i=0:=by simp only [List.length_singleton] at hi; omega
   rfl⟩⟩
  refine (up_any hw (by decide) k hk).mono fun e w' ⟨v,he,hv,hb⟩=>?_
  rw [show val [1]*2^k=2^k by rw [show val [1]=1 from rfl,Nat.one_mul]] at hv
  obtain ⟨A,c,rfl,h2⟩:=wd_of hv
  refine ⟨[wdPl A c],fun x hx c hc=>?_,by rw [he]; rfl,⟨h2,trivial⟩,hb⟩
  obtain rfl:=List.mem_singleton.1 hx
  exact hc.elim,by kernel_rfl⟩
noncomputable abbrev rtF:Func:=Tryz.f288
noncomputable abbrev rtN:Nat:=sizeS rtF [whS 0]
abbrev WHT:TypeId:=23
abbrev wh0:List Lf:=[.b (.v (.bool false)),.b (.v (.string ⟨#[]⟩))]
abbrev rtI (i:Int):SV:=.one (.c (.b (.v (.int .i64 i))))
abbrev rtSl (n:Nat) (root:SV) (i:Int):List (Nat × SV):=[(2,.one (.c (.b (.p 1 0)))),(3,.one (.c (.b (.p 2 0)))),(4,wdS 3 n),(5,root),(6,rtI i)]
abbrev rtOb (n:Nat) (l:List Ob):List Ob:=[.dead,.box wh0 WHT,.box wh0 WHT,(wdT n).ob]++l
noncomputable abbrev rtc0 (n:Nat) (i:Int) (ev:List (Ev Tryz.prog)):Cf Tryz.prog:=mkC Tryz.prog rtN 0 (rtSl n nilW i) (rtOb n []) ev
noncomputable abbrev rtc1 (n r:Nat) (i:Int) (ev:List (Ev Tryz.prog)):Cf Tryz.prog:=mkC Tryz.prog rtN 0 (rtSl n (wdS 4 r) i) (rtOb n [(wdT r).ob]) ev
abbrev rtRes (r m:Nat):SV:=.tup [.a [.b (.v (.bool false)),.b (.v (.string (mag r)))],.a [.b (.v (.bool false)),.b (.v (.string (mag m)))]]
abbrev rtH (β0:Env) (w:World) (r m:Nat) (C:Cf Tryz.prog):Prop:=HdOk Tryz.prog 0 rtN w.heap.size w β0 (bodyPost Tryz.prog rtF (Said Tryz.prog rtF 0 (rtRes r m) [] β0 w)) C (lpAt rtF 0)
section
variable (β0:Env) (w:World) (R M:Nat)
theorem rt_geq {i:Int} (h:0≤i):Value.bool (decide (0≤i))=.bool true:=by rw [decide_eq_true h]
theorem rt_leq {a:Int} {t:Bool} (h:decide (a≤0)=t):Value.bool (decide (a≤0))=.bool t:=by rw [h]
noncomputable def rootE (n k x:Nat) (hk:k≤137438953472) (more:Ev Tryz.prog) (hx:dgL x≤8589934592) {t:Bool} (ht:decide (cmpN (x*x) n≤0)=t) (j:Int) (hj:IntKind.i64.wrap ((k:Int)-1)=j):List (Ev Tryz.prog) :=
 [.eqv 15 (.bool (decide (0≤(k:Int)))) (.bool true) (rt_geq (Int.natCast_nonneg k)),(sRUp1 k hk).e,more,(sRProd hx).e,(sRUnder (x*x) n).e,.eqv 28 (.bool (decide (cmpN (x*x) n≤0))) (.bool t) (rt_leq ht),.eqv 17 (.int .i64 (IntKind.i64.wrap ((k:Int)-1))) (.int .i64 j) (by rw [hj]),.cut]
variable {n k:Nat} (hk:k≤137438953472) {j:Int} (hj:IntKind.i64.wrap ((k:Int)-1)=j)
theorem rt0_yes (h2:dgL (2^k)≤8589934592) (ht:decide (cmpN (2^k*2^k) n≤0)=true) (h:rtH β0 w R M (rtc1 n (2^k) j [])) :
  rtH β0 w R M (rtc0 n k (rootE n k (2^k) hk (sRMore0 h2).e h2 ht j hj)):=piece_ok (Ns:=[]) (m:=300) [] [0,1,2,3,6] hmA (by kernel_rfl) (fun β=>ok_of_maps (by kernel_rfl)) h
theorem rt0_no (h2:dgL (2^k)≤8589934592) (ht:decide (cmpN (2^k*2^k) n≤0)=false) (h:rtH β0 w R M (rtc0 n j [])) :
  rtH β0 w R M (rtc0 n k (rootE n k (2^k) hk (sRMore0 h2).e h2 ht j hj)):=piece_ok (Ns:=[]) (m:=300) [] [0,1,2,3] hmA (by kernel_rfl) (fun β=>ok_of_maps (by kernel_rfl)) h
variable {r:Nat}
theorem rt1_yes (h1:dgL r≤8589934592) (h2:dgL (2^k)≤8589934592) (h3:dgL (r+2^k)≤8589934592) (ht:decide (cmpN ((r+2^k)*(r+2^k)) n≤0)=true) (h:rtH β0 w R M (rtc1 n (r+2^k) j [])) :
  rtH β0 w R M (rtc1 n r k (rootE n k (r+2^k) hk (sRMore h1 h2).e h3 ht j hj)):=piece_ok (Ns:=[]) (m:=300) [] [0,1,2,3,7] hmA (by kernel_rfl) (fun β=>ok_of_maps (by kernel_rfl)) h
theorem rt1_no (h1:dgL r≤8589934592) (h2:dgL (2^k)≤8589934592) (h3:dgL (r+2^k)≤8589934592) (ht:decide (cmpN ((r+2^k)*(r+2^k)) n≤0)=false) (h:rtH β0 w R M (rtc1 n r j [])) :
  rtH β0 w R M (rtc1 n r k (rootE n k (r+2^k) hk (sRMore h1 h2).e h3 ht j hj)):=piece_ok (Ns:=[]) (m:=300) [] [0,1,2,3,4] hmA (by kernel_rfl) (fun β=>ok_of_maps (by kernel_rfl)) h
theorem rt_end (h1:dgL r≤4294967296) (hn:dgL n≤8589934592) (hle:r*r≤n) (hm:dgL (n-r*r)≤4294967296) :
  rtH β0 w r (n-r*r) (rtc1 n r (-1) [(sRMade h1).e,(sRProd (x:=r) (Nat.le_trans h1 (by decide))).e,(sRLess (x:=n) (y:=r*r) hn hle).e,(sRMade hm).e]):=last_ok (Ns:=[]) (m:=300) hmA (fun β=>ok_of_maps (by kernel_rfl))
end
theorem hd_ev {P:Program} {m0 n B0:Nat} {w0:World} {β0:Env} {Q:Exit→Act→World→Prop} {u:Nat} {sl:List (Nat × SV)} {ob:List Ob} {ev ev':List (Ev P)} {p:Code × List Kf} (h:HdOk P m0 n B0 w0 β0 Q (mkC P n u sl ob ev) p):HdOk P m0 n B0 w0 β0 Q (mkC P n u sl ob ev') p :=
 fun β a w hβ hs=>h β a w hβ (hs.ev ev)
theorem sqrt_uniq {n r s:Nat} (h1:r*r≤n) (h2:n<(r+1)*(r+1)) (k1:s*s≤n) (k2:n<(s+1)*(s+1)):r=s:=by
 rcases Nat.lt_trichotomy r s with h | h | h
 · have:=Nat.mul_le_mul (Nat.succ_le_of_lt h) (Nat.succ_le_of_lt h)
   simp only [Nat.succ_eq_add_one] at this
   omega
 · exact h
 · have:=Nat.mul_le_mul (Nat.succ_le_of_lt h) (Nat.succ_le_of_lt h)
   simp only [Nat.succ_eq_add_one] at this
   omega
theorem big_len {n m:Nat} (h:m≤3*n+1):dgL m≤dgL n+1:=by
 apply dig_len_le
 have h1:=dig_lt n
 rw [Nat.pow_succ]
 generalize (4294967296:Nat)^dgL n=z at h1
 omega
theorem cmp_dec {a n:Nat} {t:Bool} (h:decide (a≤n)=t):decide (cmpN a n≤0)=t:=by
 rw [← h]
 exact decide_eq_decide.2 cmpN_le
section
variable {β0:Env} {w:World} {n R:Nat} (hd:dgL n≤4294967290) (hR1:R*R≤n) (hR2:n<(R+1)*(R+1))
include hd hR1 hR2 in
theorem rt_done {r:Nat} (h1:r*r≤n) (h2:n<(r+1)*(r+1)):rtH β0 w R (n-R*R) (rtc1 n r (-1) []):=by
 obtain rfl:=sqrt_uniq h1 h2 hR1 hR2
 have hr:r≤n:=Nat.le_trans (Nat.le_mul_self r) h1
 exact hd_ev (rt_end β0 w (Nat.le_trans (dig_len_mono _ _ hr) (Nat.le_trans hd (by decide))) (Nat.le_trans hd (by decide)) h1 (Nat.le_trans (dig_len_mono _ _ (Nat.sub_le _ _)) (Nat.le_trans hd (by decide))))
theorem wrap_pred (k:Nat) (hk:k≤137438953472):IntKind.i64.wrap (((k+1:Nat):Int)-1)=(k:Int):=by
 rw [IntKind.wrap_i64]
 omega
include hd hR1 hR2 in
theorem rt_loop:∀ k:Nat,k≤137438953472→2^k≤2*n+1 →
  (1≤n→n<2^(k+1)*2^(k+1)→rtH β0 w R (n-R*R) (rtc0 n k []))∧∀ r,r*r≤n→n<(r+2^(k+1))*(r+2^(k+1))→rtH β0 w R (n-R*R) (rtc1 n r k [])
 | 0,hk,hp=>by
  have l2:dgL (2^0)≤8589934592:=Nat.le_trans (big_len (n:=n) (by omega)) (Nat.le_trans (Nat.add_le_add_right hd 1) (by decide))
  refine ⟨fun hn h=>?_,fun r hr h=>?_⟩
  · refine hd_ev (rt0_yes β0 w R (n-R*R) (k:=0) (j:=-1) hk (by decide) l2 (cmp_dec (decide_eq_true (by show 1*1≤n; omega))) ?_)
    exact rt_done hd hR1 hR2 (by show 1*1≤n; omega) h
  · have hrn:r≤n:=Nat.le_trans (Nat.le_mul_self r) hr
    have l1:dgL r≤8589934592:=Nat.le_trans (dig_len_mono _ _ hrn) (Nat.le_trans hd (by decide))
    have l3:dgL (r+2^0)≤8589934592:=Nat.le_trans (big_len (n:=n) (by omega)) (Nat.le_trans (Nat.add_le_add_right hd 1) (by decide))
    cases ht:decide ((r+2^0)*(r+2^0)≤n) with
    | true=>exact hd_ev (rt1_yes β0 w R (n-R*R) (k:=0) (j:=-1) hk (by decide) l1 l2 l3 (cmp_dec ht) (rt_done hd hR1 hR2 (of_decide_eq_true ht) h))
    | false=>exact hd_ev (rt1_no β0 w R (n-R*R) (k:=0) (j:=-1) hk (by decide) l1 l2 l3 (cmp_dec ht) (rt_done hd hR1 hR2 hr (Nat.lt_of_not_le (of_decide_eq_false ht))))
 | k+1,hk,hp=>by
  have hp':2^k≤2*n+1:=Nat.le_trans (Nat.pow_le_pow_right (by decide) (Nat.le_succ k)) hp
  obtain ⟨ih0,ih1⟩:=rt_loop k (by omega) hp'
  have l2:dgL (2^(k+1))≤8589934592:=Nat.le_trans (big_len (n:=n) (by omega)) (Nat.le_trans (Nat.add_le_add_right hd 1) (by decide))
  have hj:=wrap_pred k (by omega)
  have e2:2^(k+1+1)=2^(k+1)+2^(k+1):=by rw [Nat.pow_succ 2 (k+1)]; omega
  refine ⟨fun hn h=>?_,fun r hr h=>?_⟩
  · cases ht:decide (2^(k+1)*2^(k+1)≤n) with
    | true=>exact hd_ev (rt0_yes β0 w R (n-R*R) hk hj l2 (cmp_dec ht) (ih1 _ (of_decide_eq_true ht) (by rw [e2] at h; exact h)))
    | false=>exact hd_ev (rt0_no β0 w R (n-R*R) hk hj l2 (cmp_dec ht) (ih0 hn (Nat.lt_of_not_le (of_decide_eq_false ht))))
  · have hrn:r≤n:=Nat.le_trans (Nat.le_mul_self r) hr
    have l1:dgL r≤8589934592:=Nat.le_trans (dig_len_mono _ _ hrn) (Nat.le_trans hd (by decide))
    have l3:dgL (r+2^(k+1))≤8589934592:=Nat.le_trans (big_len (n:=n) (by omega)) (Nat.le_trans (Nat.add_le_add_right hd 1) (by decide))
    cases ht:decide ((r+2^(k+1))*(r+2^(k+1))≤n) with
    | true=>exact hd_ev (rt1_yes β0 w R (n-R*R) hk hj l1 l2 l3 (cmp_dec ht) (ih1 _ (of_decide_eq_true ht) (by rw [e2,← Nat.add_assoc] at h; exact h)))
    | false=>exact hd_ev (rt1_no β0 w R (n-R*R) hk hj l1 l2 l3 (cmp_dec ht) (ih1 _ hr (Nat.lt_of_not_le (of_decide_eq_false ht))))
end
theorem bits_ex {n:Nat} (hn:1≤n):∃ L,Bits n L:=⟨n.log2+1,Nat.lt_log2_self,fun _=>Nat.log2_self_le (by omega)⟩
theorem bits_len {n L:Nat} (h:Bits n L):L≤32*dgL n:=by
 show L≤32*(dig n).length
 rcases Nat.eq_zero_or_pos L with rfl | hp
 · exact Nat.zero_le _
 · have h1:=h.2 hp
   have h2:=dig_lt n
   rw [show (4294967296:Nat)=2^32 by decide,← Nat.pow_mul] at h2
   have h3:=(Nat.pow_lt_pow_iff_right (by decide:1<2)).1 (Nat.lt_of_le_of_lt h1 h2)
   omega
theorem wrap_half (L:Nat) (h:L≤4611686018427387904):IntKind.i64.wrap (Int.tdiv (L:Int) 2)=((L/2:Nat):Int):=by
 have:Int.tdiv (L:Int) 2=((L/2:Nat):Int):=by
  rw [Int.tdiv_eq_ediv_of_nonneg (Int.natCast_nonneg L)]
  rfl
 rw [this,IntKind.wrap_i64]
 omega
noncomputable def rtStart {n L:Nat} (hm:(mag n).size≤4294967296) (hL:Bits n L) (hb:L≤4611686018427387904):List (Ev Tryz.prog) :=
 [(sRWords n hm).e,(sRBits hL).e,.eqv 13 (.int .i64 (IntKind.i64.wrap (Int.tdiv (L:Int) 2))) (.int .i64 ((L/2:Nat):Int)) (by rw [wrap_half L hb]),.cut]
theorem rroot_ok {n R:Nat} (hn:1≤n) (hm:(mag n).size≤4294967296) (hd:dgL n≤4294967290) (hR1:R*R≤n) (hR2:n<(R+1)*(R+1)) (β:Env) (w:World) :
  Calls Tryz.prog 288 (([whS n]:List SV).map (SV.den β)).toArray w (Said Tryz.prog rtF 0 (rtRes R (n-R*R)) [] β w):=by
 obtain ⟨L,hL⟩:=bits_ex hn
 have hl:L≤137438953472:=Nat.le_trans (bits_len hL) (Nat.le_trans (Nat.mul_le_mul_left 32 hd) (by decide))
 have hb:L≤4611686018427387904:=by omega
 have hp:2^(L/2)≤2*n+1:=by
  rcases Nat.eq_zero_or_pos L with rfl | hp
  · show 1≤2*n+1
    omega
  · have h1:=hL.2 hp
    have h2:2^(L/2)≤2^L:=Nat.pow_le_pow_right (by decide) (Nat.div_le_self _ _)
    have h3:2^L=2*2^(L-1):=by
     rw [← Nat.pow_succ']
     congr 1
     omega
    omega
 have hq:n<2^(L/2+1)*2^(L/2+1):=by
  rw [← Nat.pow_add]
  exact Nat.lt_of_lt_of_le hL.1 (Nat.pow_le_pow_right (by decide) (by omega))
 exact sx_cut (P:=Tryz.prog) [whS n] [] (rtStart hm hL hb) [] [] 300 (rtRes R (n-R*R)) [] Tryz.func288 hmA (u:=0) (sl:=rtSl n nilW ((L/2:Nat):Int)) (ob:=rtOb n []) (σ:=[0,1,2,3]) (p':=lpAt rtF 0) (by kernel_rfl) (fun β=>ok_of_maps (by kernel_rfl)) (by kernel_rfl) (by kernel_rfl) β w (fun k o ho=>by simp at ho)
  ((rt_loop hd hR1 hR2 (L/2) (by omega) hp).1 hn hq)
noncomputable def sRRoot {n R:Nat} (hn:1≤n) (hm:(mag n).size≤4294967296) (hd:dgL n≤4294967290) (hR1:R*R≤n) (hR2:n<(R+1)*(R+1)):Spec Tryz.prog :=
 ⟨288,Tryz.call288,[whS n],[],rtRes R (n-R*R),[],fun β w _=>(rroot_ok hn hm hd hR1 hR2 β w).mono fun e w' h=>by
  obtain ⟨β',q,obj,_,rfl,_,_,_,g⟩:=h
  exact ⟨[],(fun _ h=>by cases h),rfl,trivial,g.bel⟩,by kernel_rfl⟩
theorem gp_mul1 (z:GQ):gmul (gint 1 0) z=z:=by
 refine GQ.ext2 ?_ ?_<;>(rw [gint10]; simp only [gmul]; grind)
theorem gp_as (a b c:GQ):gmul (gmul a b) c=gmul a (gmul b c):=by
 refine GQ.ext2 ?_ ?_<;>(simp only [gmul]; grind)
theorem gp_cm (a b:GQ):gmul a b=gmul b a:=by
 refine GQ.ext2 ?_ ?_<;>(simp only [gmul]; grind)
def gpw (x:GQ):Nat→GQ
 | 0=>gint 1 0
 | n+1=>gmul (gpw x n) x
theorem gpw_sq (x:GQ):∀ m,gpw (gmul x x) m=gpw x (2*m)
 | 0=>rfl
 | m+1=>by
  show gmul (gpw (gmul x x) m) (gmul x x)=gpw x (2*m+2)
  show _=gmul (gmul (gpw x (2*m)) x) x
  rw [gpw_sq x m,gp_as]
theorem gpw_odd (a x:GQ) (m:Nat):gmul (gmul a x) (gpw (gmul x x) m)=gmul a (gpw x (2*m+1)):=by
 rw [gpw_sq,gp_as]
 show _=gmul a (gmul (gpw x (2*m)) x)
 rw [gp_cm x]
abbrev gpN:TypeId:=168
theorem gp_and (k:Nat) (hk:k≤64):Value.int .i64 (bits .and .i64 (k:Int) 1)=.int .i64 ((k % 2:Nat):Int):=by
 have h:∀ i:_root_.Fin 65,bits .and .i64 ((i.val:Nat):Int) 1=((i.val % 2:Nat):Int):=by decide +kernel
 rw [h ⟨k,by omega⟩]
theorem gp_shr (k:Nat):Value.int .i64 ((k:Int).fdiv (2^1))=.int .i64 ((k/2:Nat):Int):=by
 congr 1
 rw [show ((2:Int)^1)=2 from rfl,Int.fdiv_eq_ediv_of_nonneg _ (by decide)]
 omega
section
variable (z:GQ) (n:Int)
noncomputable abbrev gpF:Func:=Tryz.f163
abbrev gpA:List SV:=[nV 0,.one (.c (.b (.p 2 0)))]
noncomputable abbrev gpSz:Nat:=sizeS gpF gpA
abbrev gpO:List Ob:=[(ratM z.re).ob,(ratM z.im).ob,bxI n]
abbrev gpSl (k:Nat):List (Nat × SV):=[(2,.one (.c (.b (.p 4 0)))),(3,.one (.c (.b (.p 5 0)))),(4,.one (nI' 0)),(5,.one (.c (.b (.p 6 0)))),(6,.one (nI' (k:Int)))]
noncomputable abbrev gpC (x a:GQ) (k:Nat) (ev:List (Ev Tryz.prog)):Cf Tryz.prog :=
 mkC Tryz.prog gpSz 3 (gpSl k) (gpO z n++[.dead,.box [.b (.z 7 0),.b (.z 8 0)] gpN,.box [nilL,nilL] gpN,.box [.b (.z 9 0),.b (.z 10 0)] gpN,(ratM x.re).ob,(ratM x.im).ob,(ratT a.re).ob,(ratT a.im).ob]) ev
abbrev gpH (R:GQ) (β0:Env) (w:World) (C:Cf Tryz.prog):Prop:=HdOk Tryz.prog 3 gpSz w.heap.size w β0 (bodyPost Tryz.prog gpF (Said Tryz.prog gpF 3 (.tup [nA 9,nI' 0]) [(9,(ratT R.re).ob),(10,(ratT R.im).ob)] β0 w)) C (lpAt gpF 0)
variable (R:GQ) (β0:Env) (w:World)
theorem gp_even {x a:GQ} {k:Nat} (hk:0<k) (h64:k≤64) (h2:k % 2=0) (hx:GSz KM x) (j:gpH R β0 w (gpC z n (gmul x x) a (k/2) [])) :
  gpH R β0 w (gpC z n x a k [.eqv 28 (.bool (decide ((0:Int)<(k:Int)))) (.bool true) (by rw [decide_eq_true (by omega)]),.eqv 32 (.int .i64 (bits .and .i64 (k:Int) 1)) (.int .i64 0) (by rw [gp_and k h64,h2]; rfl),(sMul hx hx).e,.eqv 30 (.int .i64 ((k:Int).fdiv (2^1))) (.int .i64 ((k/2:Nat):Int)) (gp_shr k),.cut]) :=
 piece_ok (Ns:=[]) (m:=400) [] [0,1,2,0,4,5,6,11,12,9,10] hmA (by kernel_rfl) (fun β=>ok_of_maps (by kernel_rfl)) j
theorem gp_odd {x a:GQ} {k:Nat} (hk:0<k) (h64:k≤64) (h2:k % 2=1) (hx:GSz KM x) (ha:GSz KM a) (j:gpH R β0 w (gpC z n (gmul x x) (gmul a x) (k/2) [])) :
  gpH R β0 w (gpC z n x a k [.eqv 28 (.bool (decide ((0:Int)<(k:Int)))) (.bool true) (by rw [decide_eq_true (by omega)]),.eqv 32 (.int .i64 (bits .and .i64 (k:Int) 1)) (.int .i64 1) (by rw [gp_and k h64,h2]; rfl),(sMul ha hx).e,(sMul hx hx).e,.eqv 30 (.int .i64 ((k:Int).fdiv (2^1))) (.int .i64 ((k/2:Nat):Int)) (gp_shr k),.cut]) :=
 piece_ok (Ns:=[]) (m:=400) [] [0,1,2,0,4,5,6,13,14,11,12] hmA (by kernel_rfl) (fun β=>ok_of_maps (by kernel_rfl)) j
theorem gp_end (x:GQ):gpH R β0 w (gpC z n x R 0 []) :=
 last_ok (Ns:=[]) (m:=400) hmA (fun β=>ok_of_maps (by kernel_rfl))
theorem gp_loop:∀ (r M:Nat),1≤M→M*5^r≤KM→∀ (k:Nat),k≤64→k<2^r→∀ (x a:GQ),GSz M x→GSz M a→gmul a (gpw x k)=R→gpH R β0 w (gpC z n x a k [])
 | 0,M,h1,hM,k,h64,hk,x,a,hx,ha,e=>by
  obtain rfl:k=0:=by simp at hk; exact hk
  have:a=R:=by
   rw [← e]
   show a=gmul a (gint 1 0)
   rw [gp_cm,gp_mul1]
  rw [this]
  exact gp_end z n R β0 w x
 | r+1,M,h1,hM,k,h64,hk,x,a,hx,ha,e=>by
  rcases Nat.eq_zero_or_pos k with rfl | h0
  · have:a=R:=by
     rw [← e]
     show a=gmul a (gint 1 0)
     rw [gp_cm,gp_mul1]
    rw [this]
    exact gp_end z n R β0 w x
  have hM5:(M+M+(M+M)+1)≤5*M:=by omega
  have hM2:5*M*5^r≤KM:=by
   rw [Nat.pow_succ] at hM
   have:5*M*5^r=M*(5^r*5):=by rw [Nat.mul_comm 5 M,Nat.mul_assoc,Nat.mul_comm 5]
   omega
  have hMK:M≤KM:=Nat.le_trans (Nat.le_mul_of_pos_right M (Nat.pow_pos (by decide))) hM
  have hx2:GSz (5*M) (gmul x x):=(hx.mul hx).mono hM5
  rcases Nat.mod_two_eq_zero_or_one k with h2 | h2
  · refine hd_ev (gp_even z n R β0 w h0 h64 h2 (hx.mono hMK) (gp_loop r (5*M) (by omega) hM2 (k/2) (by omega) (by rw [Nat.pow_succ] at hk; omega) _ _ hx2 (ha.mono (by omega)) ?_))
    rw [gpw_sq,show 2*(k/2)=k by omega]
    exact e
  · refine hd_ev (gp_odd z n R β0 w h0 h64 h2 (hx.mono hMK) (ha.mono hMK) (gp_loop r (5*M) (by omega) hM2 (k/2) (by omega) (by rw [Nat.pow_succ] at hk; omega) _ _ hx2 ((ha.mul hx).mono hM5) ?_))
    rw [gpw_odd,show 2*(k/2)+1=k by omega]
    exact e
end
section
variable (z:GQ) (n:Int)
theorem gp_out {R:GQ} {β:Env} {w:World} {e:Ending} {w':World} (hh:∀ (k:Nat) (o:Ob),(gpO z n)[k]?=some o→o.holds β w (β k)) (h:Said Tryz.prog gpF 3 (.tup [nA 9,nI' 0]) [(9,(ratT R.re).ob),(10,(ratT R.im).ob)] β w e w') :
  ∃ xs:List Pl,(∀ x∈xs,∀ c,x.F c→w.heap.size≤c∨∃ i o,(gpO z n)[i]?=some o∧o.isTh=true∧(β i).F c)∧e=.returned ((SV.tup [nA 3,nI' 0]).den (extE β 3 xs))∧newHold w' ([R.re,R.im].map ratT) xs∧Below w.heap.size w w':=by
 obtain ⟨β',q,obj,hb,rfl,_,hF,ho,g⟩:=h
 have h9:PR R.re w' (β' 9):=ho (9,(ratT R.re).ob) (by simp)
 have h10:PR R.im w' (β' 10):=ho (10,(ratT R.im).ob) (by simp)
 have hbx:(bxI n).holds β w (β 2):=hh 2 _ rfl
 have hw:w'.heap[(β 2).b]?=some (.cells (([.b (.v (.int .i64 n))]:List Lf).map (Lf.den β)).toArray 3 (0,0)):=by rw [g.bel.block _ (heap_lt hbx.2)]; exact hbx.2
 have key:∀ (k:Nat) (x:Rat),PR x w' (β' k)→(∀ c,(β' k).F c→w.heap.size≤c∨∃ i,i<3∧(β i).F c)→∀ c,(β' k).F c→w.heap.size≤c∨∃ i o,(gpO z n)[i]?=some o∧o.isTh=true∧(β i).F c:=fun k x hx hf c hc=>by
  rcases hf c hc with h1 | ⟨i,h1,h2⟩
  · exact .inl h1
  · match i,h1,h2 with
    | 0,_,h2=>exact .inr ⟨0,_,rfl,rfl,h2⟩
    | 1,_,h2=>exact .inr ⟨1,_,rfl,rfl,h2⟩
    | 2,_,h2 =>
     exfalso
     obtain ⟨b,b1,b2⟩:=hx
     have e1:=(hbx.1.1 c).1 h2
     have e2:=(b1.2 c).1 hc
     rw [← e2,e1] at b2
     exact small_no_rat hw (by show 1<4; decide) b2
 refine ⟨[β' 9,β' 10],fun x hx c hc=>?_,rfl,⟨h9,h10,trivial⟩,g.bel⟩
 rcases List.mem_cons.1 hx with rfl | hx
 · exact key 9 _ h9 (hF (9,(ratT R.re).ob) (by simp)) c hc
 · obtain rfl:=List.mem_singleton.1 hx
   exact key 10 _ h10 (hF (10,(ratT R.im).ob) (by simp)) c hc
theorem gp_max (h:n.natAbs≤64):Value.int .i64 (if (-n) > n then (-n) else n)=.int .i64 (n.natAbs:Int):=by
 congr 1
 split<;>omega
theorem gp_neg (h:n.natAbs≤64):Value.int .i64 (IntKind.i64.wrap (0-n))=.int .i64 (-n):=by
 rw [IntKind.wrap_i64]
 congr 1
 omega
noncomputable def gpE0 (h:n.natAbs≤64):List (Ev Tryz.prog):=[.eqv 8 (.bool (decide (n < -64))) (.bool false) (by rw [decide_eq_false (by omega)]),.eqv 11 (.bool (decide (64<n))) (.bool false) (by rw [decide_eq_false (by omega)])]
noncomputable def gpE1 (h:n.natAbs≤64):List (Ev Tryz.prog):=[(sInt 1 0 (by decide) (by decide)).e,.eqv 25 (.int .i64 (IntKind.i64.wrap (0-n))) (.int .i64 (-n)) (gp_neg n h),.eqv 26 (.int .i64 (if (-n) > n then (-n) else n)) (.int .i64 (n.natAbs:Int)) (gp_max n h),.cut]
theorem gp_startP (R:GQ) (β0:Env) (w:World) (h:n.natAbs≤64) (h0:0≤n) (hh:∀ (k:Nat) (o:Ob),(gpO z n)[k]?=some o→o.holds β0 w (β0 k)) (j:gpH R β0 w (gpC z n z (gint 1 0) n.natAbs [])):Calls Tryz.prog 163 (gpA.map (SV.den β0)).toArray w (Said Tryz.prog gpF 3 (.tup [nA 9,nI' 0]) [(9,(ratT R.re).ob),(10,(ratT R.im).ob)] β0 w) :=
 sx_cut (P:=Tryz.prog) gpA (gpO z n) (gpE0 n h++[.eqv 15 (.bool (decide (n<0))) (.bool false) (by rw [decide_eq_false (by omega)])]++gpE1 n h) [] [] 400 (.tup [nA 9,nI' 0]) [(9,(ratT R.re).ob),(10,(ratT R.im).ob)] Tryz.func163 hmA (u:=3) (sl:=gpSl n.natAbs)
  (ob:=gpO z n++[.dead,.box [.b (.z 7 0),.b (.z 8 0)] gpN,.box [nilL,nilL] gpN,.box [.b (.z 9 0),.b (.z 10 0)] gpN,(ratM z.re).ob,(ratM z.im).ob,(ratT (gint 1 0).re).ob,(ratT (gint 1 0).im).ob]) (σ:=[0,1,2,0,3,4,7,0,1,5,6]) (p':=lpAt gpF 0) (by kernel_rfl) (fun β=>ok_of_maps (by kernel_rfl)) (by kernel_rfl) (by kernel_rfl) β0 w hh j
theorem gp_startN (R:GQ) (β0:Env) (w:World) (h:n.natAbs≤64) (h0:n<0) (hz:GSz 1024 z) (hz0:gzero z=false) (hh:∀ (k:Nat) (o:Ob),(gpO z n)[k]?=some o→o.holds β0 w (β0 k)) (j:gpH R β0 w (gpC z n (gdiv (gint 1 0) z) (gint 1 0) n.natAbs [])):Calls Tryz.prog 163 (gpA.map (SV.den β0)).toArray w (Said Tryz.prog gpF 3 (.tup [nA 9,nI' 0]) [(9,(ratT R.re).ob),(10,(ratT R.im).ob)] β0 w) :=
 sx_cut (P:=Tryz.prog) gpA (gpO z n) (gpE0 n h++[.eqv 15 (.bool (decide (n<0))) (.bool true) (by rw [decide_eq_true h0]),(sZero hz0).e,(sInt 1 0 (by decide) (by decide)).e,(sDiv ((GSz.int (n:=1) (m:=0) (by decide) (by decide)).mono (by decide)) (hz.mono (by decide)) hz0).e]++gpE1 n h) [] [(6,3)] 400 (.tup [nA 9,nI' 0]) [(9,(ratT R.re).ob),(10,(ratT R.im).ob)] Tryz.func163 hmA (u:=3) (sl:=gpSl n.natAbs)
  (ob:=gpO z n++[.dead,.box [.b (.z 7 0),.b (.z 8 0)] gpN,.box [nilL,nilL] gpN,.box [.b (.z 9 0),.b (.z 10 0)] gpN,(ratM (gdiv (gint 1 0) z).re).ob,(ratM (gdiv (gint 1 0) z).im).ob,(ratT (gint 1 0).re).ob,(ratT (gint 1 0).im).ob]) (σ:=[0,1,2,0,3,4,11,7,8,9,10]) (p':=lpAt gpF 0) (by kernel_rfl) (fun β=>ok_of_maps (by kernel_rfl)) (by kernel_rfl) (by kernel_rfl) β0 w hh j
def gpB:GQ:=if 0≤n then z else gdiv (gint 1 0) z
theorem gp_inv_sz {k:Nat} (hz:GSz k z) (hz0:gzero z=false):GSz (4*k+5) (gdiv (gint 1 0) z):=by
 have h1:IZ 2 2 (gint 1 0):=IZ.of_sz (k:=1) (Sz.small (n:=1) (by decide)) (Sz.small (n:=0) (by decide))
 have h2:IZ (k+k) (k+k) z:=IZ.of_sz hz.1 hz.2
 have h3:=h1.div h2 (fun e=>by rw [e] at hz0; exact absurd hz0 (by decide +kernel)) (Nat.le_refl (2*(k+k)+1))
 obtain ⟨u,v,w,h0,hu,hv,hw,e1,e2⟩:=h3
 exact ⟨(sz_over h0 hu hw e1 (by omega)).mono (by omega),(sz_over h0 hv hw e2 (by omega)).mono (by omega)⟩
noncomputable def gpS {k:Nat} (hz:GSz k z) (h:n.natAbs≤64) (hk:k≤80) (h0:0≤n∨gzero z=false) {r:Nat} (hr:n.natAbs<2^r) (hM:(4*k+5)*5^r≤KM) {R:GQ} (hR:gpw (gpB z n) n.natAbs=R):OSpec Tryz.prog :=
 ⟨163,Tryz.call163,gpA,gpO z n,.tup [nA 3,nI' 0],[R.re,R.im],fun β w hh=>by
  have h1:GSz (4*k+5) (gint 1 0):=(GSz.int (n:=1) (m:=0) (by decide) (by decide)).mono (by omega)
  by_cases hn:0≤n
  · have hB:gpB z n=z:=if_pos hn
    rw [hB] at hR
    exact (gp_startP z n R β w h hn hh (gp_loop z n R β w r (4*k+5) (by omega) hM n.natAbs h hr z (gint 1 0) (hz.mono (by omega)) h1 (by rw [gp_mul1]; exact hR))).mono fun e w' h=>gp_out z n hh h
  · have hB:gpB z n=gdiv (gint 1 0) z:=if_neg hn
    rw [hB] at hR
    have hz0:gzero z=false:=h0.resolve_left hn
    exact (gp_startN z n R β w h (by omega) (hz.mono (by omega)) hz0 hh (gp_loop z n R β w r (4*k+5) (by omega) hM n.natAbs h hr _ (gint 1 0) (gp_inv_sz z hz hz0) h1 (by rw [gp_mul1]; exact hR))).mono fun e w' h=>gp_out z n hh h,by kernel_rfl⟩
end
noncomputable def gpXa (z:GQ) {n:Int} (h:n < -64):OSpec Tryz.prog :=
 OSpec.auto Tryz.call163 gpA (gpO z n) (.tup [nA 0,nI' 2]) [] [.eqv 8 (.bool (decide (n < -64))) (.bool true) (by rw [decide_eq_true h])] [(6,3)] 800 Tryz.func163 hmA (by kernel_rfl) (fun β=>by kernel_rfl)
noncomputable def gpXb (z:GQ) {n:Int} (h:64<n):OSpec Tryz.prog :=
 OSpec.auto Tryz.call163 gpA (gpO z n) (.tup [nA 0,nI' 2]) [] [.eqv 8 (.bool (decide (n < -64))) (.bool false) (by rw [decide_eq_false (by omega)]),.eqv 11 (.bool (decide (64<n))) (.bool true) (by rw [decide_eq_true h])] [(6,3)] 800 Tryz.func163 hmA (by kernel_rfl) (fun β=>by kernel_rfl)
noncomputable def gpXc (z:GQ) {n:Int} (h:n.natAbs≤64) (h0:n<0) (hz:gzero z=true):OSpec Tryz.prog :=
 OSpec.auto Tryz.call163 gpA (gpO z n) (.tup [nA 0,nI' 5]) [] (gpE0 n h++[.eqv 15 (.bool (decide (n<0))) (.bool true) (by rw [decide_eq_true h0]),(sZero hz).e]) [(6,3)] 800 Tryz.func163 hmA (by kernel_rfl) (fun β=>by kernel_rfl)
noncomputable def gpMa (z:GQ) {n:Int} (h:n < -64):OSpec Tryz.prog :=
 OSpec.auto Tryz.call277 [nV 0,nV 2,.one (.c (.b (.p 4 0)))] [(ratM z.re).ob,(ratM z.im).ob,(ratM z.re).ob,(ratM z.im).ob,.box [powL 5] FT1,bxI n] (.tup [nA 0,nI' 2]) [] [(gpXa z h).e] [] 400 Tryz.func277 hmA (by kernel_rfl) (fun β=>by kernel_rfl)
noncomputable def gpTa (z:GQ) {n:Int} (h:n < -64) (hf:FitG z):OSpec Tryz.prog :=
 OSpec.auto Tryz.call273 [gS z,gS z,.one (.c madeL)] [.box [powL 1] FT1,bxI n] (ga0 2) [] [(sOpened hf hf).e,dIdx 168 (numR z z),dNum 168 (numR z z),dIdx 168 (numR z z),dNum 168 (numR z z),(gpMa z h).e] [(4,12012013)] 800 Tryz.func273 hmA (by kernel_rfl) (fun β=>by kernel_rfl)
noncomputable def gpDa (z:GQ) {n:Int} (h:n < -64) (hf:FitG z):OSpec Tryz.prog :=
 OSpec.auto Tryz.call162 [gS z,.one (.c (powL 0))] [bxI n] (ga0 2) [] [(gpTa z h hf).e] [] 400 Tryz.func162 hmA (by kernel_rfl) (fun β=>by kernel_rfl)
noncomputable def sGpa (z:GQ) {n:Int} (h:n < -64) (hf:FitG z):Spec Tryz.prog :=
 Spec.auto Tryz.call43 [gS z,.one (nI' n)] [] (ga0 2) [] [(gpDa z h hf).e] [] 400 Tryz.func43 hmA (by kernel_rfl) (fun β=>by kernel_rfl)
noncomputable def gpMb (z:GQ) {n:Int} (h:64<n):OSpec Tryz.prog :=
 OSpec.auto Tryz.call277 [nV 0,nV 2,.one (.c (.b (.p 4 0)))] [(ratM z.re).ob,(ratM z.im).ob,(ratM z.re).ob,(ratM z.im).ob,.box [powL 5] FT1,bxI n] (.tup [nA 0,nI' 2]) [] [(gpXb z h).e] [] 400 Tryz.func277 hmA (by kernel_rfl) (fun β=>by kernel_rfl)
noncomputable def gpTb (z:GQ) {n:Int} (h:64<n) (hf:FitG z):OSpec Tryz.prog :=
 OSpec.auto Tryz.call273 [gS z,gS z,.one (.c madeL)] [.box [powL 1] FT1,bxI n] (ga0 2) [] [(sOpened hf hf).e,dIdx 168 (numR z z),dNum 168 (numR z z),dIdx 168 (numR z z),dNum 168 (numR z z),(gpMb z h).e] [(4,12012013)] 800 Tryz.func273 hmA (by kernel_rfl) (fun β=>by kernel_rfl)
noncomputable def gpDb (z:GQ) {n:Int} (h:64<n) (hf:FitG z):OSpec Tryz.prog :=
 OSpec.auto Tryz.call162 [gS z,.one (.c (powL 0))] [bxI n] (ga0 2) [] [(gpTb z h hf).e] [] 400 Tryz.func162 hmA (by kernel_rfl) (fun β=>by kernel_rfl)
noncomputable def sGpb (z:GQ) {n:Int} (h:64<n) (hf:FitG z):Spec Tryz.prog :=
 Spec.auto Tryz.call43 [gS z,.one (nI' n)] [] (ga0 2) [] [(gpDb z h hf).e] [] 400 Tryz.func43 hmA (by kernel_rfl) (fun β=>by kernel_rfl)
noncomputable def gpMc {z:GQ} {n:Int} (h:n.natAbs≤64) (h0:n<0) (hz:gzero z=true):OSpec Tryz.prog :=
 OSpec.auto Tryz.call277 [nV 0,nV 2,.one (.c (.b (.p 4 0)))] [(ratM z.re).ob,(ratM z.im).ob,(ratM z.re).ob,(ratM z.im).ob,.box [powL 5] FT1,bxI n] (.tup [nA 0,nI' 5]) [] [(gpXc z h h0 hz).e] [] 400 Tryz.func277 hmA (by kernel_rfl) (fun β=>by kernel_rfl)
noncomputable def gpTc {z:GQ} {n:Int} (h:n.natAbs≤64) (h0:n<0) (hz:gzero z=true) (hf:FitG z):OSpec Tryz.prog :=
 OSpec.auto Tryz.call273 [gS z,gS z,.one (.c madeL)] [.box [powL 1] FT1,bxI n] (ga0 5) [] [(sOpened hf hf).e,dIdx 168 (numR z z),dNum 168 (numR z z),dIdx 168 (numR z z),dNum 168 (numR z z),(gpMc h h0 hz).e] [(4,12012013)] 800 Tryz.func273 hmA (by kernel_rfl) (fun β=>by kernel_rfl)
noncomputable def gpDc {z:GQ} {n:Int} (h:n.natAbs≤64) (h0:n<0) (hz:gzero z=true) (hf:FitG z):OSpec Tryz.prog :=
 OSpec.auto Tryz.call162 [gS z,.one (.c (powL 0))] [bxI n] (ga0 5) [] [(gpTc h h0 hz hf).e] [] 400 Tryz.func162 hmA (by kernel_rfl) (fun β=>by kernel_rfl)
noncomputable def sGpc {z:GQ} {n:Int} (h:n.natAbs≤64) (h0:n<0) (hz:gzero z=true) (hf:FitG z):Spec Tryz.prog :=
 Spec.auto Tryz.call43 [gS z,.one (nI' n)] [] (ga0 5) [] [(gpDc h h0 hz hf).e] [] 400 Tryz.func43 hmA (by kernel_rfl) (fun β=>by kernel_rfl)
noncomputable def gpMY {z:GQ} {n:Int} {k:Nat} (hz:GSz k z) (h:n.natAbs≤64) (hk:k≤80) (h0:0≤n∨gzero z=false) {r:Nat} (hr:n.natAbs<2^r) (hM:(4*k+5)*5^r≤KM) {R:GQ} (hR:gpw (gpB z n) n.natAbs=R) (hT:GSz KB R):OSpec Tryz.prog :=
 OSpec.auto Tryz.call277 [nV 0,nV 2,.one (.c (.b (.p 4 0)))] [(ratM z.re).ob,(ratM z.im).ob,(ratM z.re).ob,(ratM z.im).ob,.box [powL 5] FT1,bxI n] (.tup [nA 6,nI' 0]) [R.re,R.im] [(gpS z n hz h hk h0 hr hM hR).e] [] 400 Tryz.func277 hmA (by kernel_rfl) (fun β=>by kernel_rfl)
noncomputable def gpTY {z:GQ} {n:Int} {k:Nat} (hz:GSz k z) (h:n.natAbs≤64) (hk:k≤80) (h0:0≤n∨gzero z=false) {r:Nat} (hr:n.natAbs<2^r) (hM:(4*k+5)*5^r≤KM) {R:GQ} (hR:gpw (gpB z n) n.natAbs=R) (hT:GSz KB R) (hf:FitG z):OSpec Tryz.prog :=
 OSpec.auto Tryz.call273 [gS z,gS z,.one (.c madeL)] [.box [powL 1] FT1,bxI n] (gA2 R) [] [(sOpened hf hf).e,dIdx 168 (numR z z),dNum 168 (numR z z),dIdx 168 (numR z z),dNum 168 (numR z z),(gpMY hz h hk h0 hr hM hR hT).e,(sTold (z:=R) hT).e] [(4,14012013)] 800 Tryz.func273 hmA (by kernel_rfl) (fun β=>by kernel_rfl)
noncomputable def gpDY {z:GQ} {n:Int} {k:Nat} (hz:GSz k z) (h:n.natAbs≤64) (hk:k≤80) (h0:0≤n∨gzero z=false) {r:Nat} (hr:n.natAbs<2^r) (hM:(4*k+5)*5^r≤KM) {R:GQ} (hR:gpw (gpB z n) n.natAbs=R) (hT:GSz KB R) (hf:FitG z):OSpec Tryz.prog :=
 OSpec.auto Tryz.call162 [gS z,.one (.c (powL 0))] [bxI n] (gA2 R) [] [(gpTY hz h hk h0 hr hM hR hT hf).e] [] 400 Tryz.func162 hmA (by kernel_rfl) (fun β=>by kernel_rfl)
noncomputable def sGpY {z:GQ} {n:Int} {k:Nat} (hz:GSz k z) (h:n.natAbs≤64) (hk:k≤80) (h0:0≤n∨gzero z=false) {r:Nat} (hr:n.natAbs<2^r) (hM:(4*k+5)*5^r≤KM) {R:GQ} (hR:gpw (gpB z n) n.natAbs=R) (hT:GSz KB R) (hf:FitG z):Spec Tryz.prog :=
 Spec.auto Tryz.call43 [gS z,.one (nI' n)] [] (gA2 R) [] [(gpDY hz h hk h0 hr hM hR hT hf).e] [] 400 Tryz.func43 hmA (by kernel_rfl) (fun β=>by kernel_rfl)
noncomputable def gpTNo (a:Gn) (h:a.B=false) (n:Int):OSpec Tryz.prog :=
 OSpec.auto Tryz.call273 [gnS a,gnS a,.one (.c madeL)] [.box [powL 1] FT1,bxI n] (ga0 2) [] [(sOpenedNo a a (by rw [h]; rfl)).e] [(4,14012013)] 800 Tryz.func273 hmA (by kernel_rfl) (fun β=>by kernel_rfl)
noncomputable def gpDNo (a:Gn) (h:a.B=false) (n:Int):OSpec Tryz.prog :=
 OSpec.auto Tryz.call162 [gnS a,.one (.c (powL 0))] [bxI n] (ga0 2) [] [(gpTNo a h n).e] [] 400 Tryz.func162 hmA (by kernel_rfl) (fun β=>by kernel_rfl)
noncomputable def sGpNo (a:Gn) (h:a.B=false) (n:Int):Spec Tryz.prog :=
 Spec.auto Tryz.call43 [gnS a,.one (nI' n)] [] (ga0 2) [] [(gpDNo a h n).e] [] 400 Tryz.func43 hmA (by kernel_rfl) (fun β=>by kernel_rfl)
theorem gpw_ne {z:GQ} (h:z≠g0):∀ n,gpw z n≠g0
 | 0=>fun e=>absurd (congrArg GQ.re e) (by show ¬ (gint 1 0).re=g0.re; rw [gint10]; decide +kernel)
 | n+1=>gmul_ne (gpw_ne h n) h
theorem gpw_inv {z:GQ} (h:z≠g0):∀ n,gmul (gpw (gdiv (gint 1 0) z) n) (gpw z n)=gint 1 0
 | 0=>gp_mul1 _
 | n+1=>by
  show gmul (gmul (gpw (gdiv (gint 1 0) z) n) (gdiv (gint 1 0) z)) (gmul (gpw z n) z)=_
  have e1:=gpw_inv h n
  have e2:=gdiv_mul (z:=gint 1 0) h
  rw [gp_cm (gpw z n) z,← gp_as,gp_as (gpw (gdiv (gint 1 0) z) n) (gdiv (gint 1 0) z) z,e2,gp_cm (gpw (gdiv (gint 1 0) z) n) (gint 1 0),gp_mul1]
  exact e1
theorem gpw_div {z:GQ} (h:z≠g0) (n:Nat):gpw (gdiv (gint 1 0) z) n=gdiv (gint 1 0) (gpw z n) :=
 ((gdiv_eq_iff (gpw_ne h n)).2 (gpw_inv h n).symm).symm
theorem gpw_iz {z:GQ} {k:Nat} (h:IZ k k z):∀ j,IZ (j*(k+1)+2) (j*k+2) (gpw z j)
 | 0=>(IZ.of_sz (k:=1) (Sz.small (n:=1) (by decide)) (Sz.small (n:=0) (by decide)):IZ 2 2 (gint 1 0)).mono (by omega) (by omega)
 | j+1=>((gpw_iz h j).mul h).mono (by rw [Nat.add_mul,Nat.one_mul]; omega) (by rw [Nat.add_mul,Nat.one_mul]; omega)
abbrev gpK4:Nat:=Go.Proofs.YtmfedaakeeiolaaGreat.KE
abbrev gpTG:TypeId:=37
section
variable (z:GQ) (n:Int)
noncomputable abbrev grF:Func:=Tryz.f49
abbrev grA:List SV:=[gS z,.one (nI' n)]
noncomputable abbrev grN:Nat:=sizeS grF (grA z n)
abbrev grSl (j:Nat):List (Nat × SV):=[(1,.one (nI' n)),(2,.one (.c (.b (.p 1 0)))),(4,.one (.c (.b (.p 2 0)))),(5,.one (.c (.b (.p 3 0)))),(6,.one (nI' (j:Int)))]
abbrev grOb (p:GQ):List Ob:=[.dead,.box (gC z) gpTG,.box (lsX g0C) gpTG,.box (gC p) gpTG]
noncomputable abbrev grC (j:Nat) (p:GQ) (ev:List (Ev Tryz.prog)):Cf Tryz.prog:=mkC Tryz.prog (grN z n) 0 (grSl n j) (grOb z p) ev
abbrev grH (R:GQ) (β0:Env) (w:World) (C:Cf Tryz.prog):Prop:=HdOk Tryz.prog 0 (grN z n) w.heap.size w β0 (bodyPost Tryz.prog grF (Said Tryz.prog grF 0 (gS R) [] β0 w)) C (lpAt grF 0)
variable (h:n.natAbs≤64)
noncomputable def grE (j:Nat) {t:Bool} (ht:decide (j<n.natAbs)=t):List (Ev Tryz.prog) :=
 [.eqv 11 (.int .i64 (IntKind.i64.wrap (0-n))) (.int .i64 (-n)) (gp_neg n h),.eqv 12 (.int .i64 (if (-n) > n then (-n) else n)) (.int .i64 (n.natAbs:Int)) (gp_max n h),.eqv 13 (.bool (decide ((j:Int)<(n.natAbs:Int)))) (.bool t) (by rw [← ht,decide_eq_decide.2 Int.ofNat_lt])]
theorem gr_step (R:GQ) (β0:Env) (w:World) {j:Nat} {p:GQ} (hj:decide (j<n.natAbs)=true) (hp:GSz gpK4 p) (hz:GSz gpK4 z) {j2:Int} (hj2:IntKind.i64.wrap ((j:Int)+1)=j2) (e2:j2=((j+1:Nat):Int)) (k:grH z n R β0 w (grC z n (j+1) (gmul p z) [])) :
  grH z n R β0 w (grC z n j p (grE n h j hj++[(sR4Times hp hz).e,.eqv 15 (.int .i64 (IntKind.i64.wrap ((j:Int)+1))) (.int .i64 ((j+1:Nat):Int)) (by rw [hj2,e2]),.cut])) :=
 piece_ok (Ns:=[]) (m:=400) [] [0,1,2,3] hmA (by kernel_rfl) (fun β=>ok_of_maps (by kernel_rfl)) k
theorem gr_endP (β0:Env) (w:World) {j:Nat} {p:GQ} (hj:decide (j<n.natAbs)=false) (h0:0≤n):grH z n p β0 w (grC z n j p (grE n h j hj++[.eqv 20 (.bool (decide (n<0))) (.bool false) (by rw [decide_eq_false (by omega)])])) :=
 last_ok (Ns:=[(7,3)]) (m:=400) hmA (fun β=>ok_of_maps (by kernel_rfl))
theorem gr_endN (β0:Env) (w:World) {j:Nat} {p:GQ} (hj:decide (j<n.natAbs)=false) (h0:n<0) (hp:GSz gpK4 p) (hp0:gzero p=false):grH z n (gdiv (gint 1 0) p) β0 w (grC z n j p (grE n h j hj++[.eqv 20 (.bool (decide (n<0))) (.bool true) (by rw [decide_eq_true h0]),(sR4Int 1 0).e,(sR4Over ((GSz.int (n:=1) (m:=0) (by decide) (by decide)).mono (by decide)) hp hp0).e])) :=
 last_ok (Ns:=[(7,3)]) (m:=400) hmA (fun β=>ok_of_maps (by kernel_rfl))
include h in
theorem gr_loop (β0:Env) (w:World) (hz:GSz gpK4 z) (hs:∀ j,j≤n.natAbs→GSz gpK4 (gpw z j)) (hz0:0≤n∨gzero z=false):∀ (d j:Nat),j+d=n.natAbs→grH z n (gpw (gpB z n) n.natAbs) β0 w (grC z n j (gpw z j) [])
 | 0,j,e=>by
  have hj:decide (j<n.natAbs)=false:=decide_eq_false (by omega)
  by_cases h0:0≤n
  · rw [show gpB z n=z from if_pos h0]
    have t2:grH z n (gpw z j) β0 w (grC z n j (gpw z j) []):=hd_ev (gr_endP z n h β0 w (p:=gpw z j) hj h0)
    have ej:j=n.natAbs:=by omega
    rw [← ej]
    exact t2
  · rw [show gpB z n=gdiv (gint 1 0) z from if_neg h0]
    have hne:z≠g0:=gz_false.1 (hz0.resolve_left h0)
    rw [gpw_div hne]
    have t2:grH z n (gdiv (gint 1 0) (gpw z j)) β0 w (grC z n j (gpw z j) []):=hd_ev (gr_endN z n h β0 w (p:=gpw z j) hj (by omega) (hs j (by omega)) (gz_false.2 (gpw_ne hne j)))
    have ej:j=n.natAbs:=by omega
    rw [← ej]
    exact t2
 | d+1,j,e=>hd_ev (gr_step z n h _ β0 w (decide_eq_true (by omega)) (hs j (by omega)) hz (j2:=((j+1:Nat):Int)) (by rw [IntKind.wrap_i64]; omega) rfl (gr_loop β0 w hz hs hz0 d (j+1) (by omega)))
theorem gr_start (R:GQ) (β0:Env) (w:World) (k:grH z n R β0 w (grC z n 0 (gint 1 0) [])):Calls Tryz.prog 49 ((grA z n).map (SV.den β0)).toArray w (Said Tryz.prog grF 0 (gS R) [] β0 w) :=
 sx_cut (P:=Tryz.prog) (grA z n) [] [(sR4Int 1 0).e,.cut] [] [] 400 (gS R) [] Tryz.func49 hmA (u:=0) (sl:=grSl n 0) (ob:=grOb z (gint 1 0)) (σ:=[0,0,1,2]) (p':=lpAt grF 0) (by kernel_rfl) (fun β=>ok_of_maps (by kernel_rfl)) (by kernel_rfl) (by kernel_rfl) β0 w (fun i o ho=>by simp at ho) k
end
noncomputable def sR4Pow {z:GQ} {n:Int} (h:n.natAbs≤64) (hz:GSz gpK4 z) (hs:∀ j,j≤n.natAbs→GSz gpK4 (gpw z j)) (hz0:0≤n∨gzero z=false):Spec Tryz.prog :=
 ⟨49,Tryz.call49,grA z n,[],gS (gpw (gpB z n) n.natAbs),[],fun β w hh=>(gr_start z n _ β w (gr_loop z n h β w hz hs hz0 n.natAbs 0 (by omega))).mono fun e w' h=>by
  obtain ⟨β',q,obj,hb,rfl,_,_,_,g⟩:=h
  exact ⟨[],(fun _ h=>by cases h),rfl,trivial,g.bel⟩,by kernel_rfl⟩
def alOf (ob:List Ob) (j:Nat):Nat:=match ob[j]? with
 | some (.al i _)=>i
 | _=>0
def dynRf {P:Program} (f:Nat→Nat→Nat→Nat→Ev P):Ev P:=.dyn (fun o _ _=>isCallB o) fun _ xs ob=>lit ob.length fun n=>lit (ptOf (xs.getD 0 undefS)) fun j=>lit (alOf ob j) fun i=>lit (ptOf (xs.getD 2 undefS)) fun k=>f i j n k
theorem one_at {g:Pl} {b:Nat} (h:g.one) (k:At1 g b):b=g.b:=((k.2 g.b).1 ((h.1 _).2 rfl)).symm
def eRQuo {x y:Rat} (i j n k:Nat) (hx:Sz KB x) (hy:Sz KB y) (h0:y≠0):Ev Tryz.prog:=.refill 178 Tryz.call178 (fun β=>#[.pointer ((β j).v 0),.pointer ((β j).v 0),.pointer ((β k).v 0)]) [(j,(ratT x).ob),(k,(ratT y).ob)] i j 4 n (ratT (x/y))
 (fun β w h hji ho hs=>by
  obtain ⟨a,ha,ka⟩:=needP (x:=x) (k:=j) h (by simp)
  obtain ⟨b,hb,kb⟩:=needP (x:=y) (k:=k) h (by simp)
  have e:=one_at ho (hji▸ha)
  subst e
  simp only [ha.1,hb.1]
  exact fillP ho (rQuo_any hs ka kb (hx.okR2 (by decide)) (hy.okR2 (by decide)) h0))
def rQuo {x y:Rat} (hx:Sz KB x) (hy:Sz KB y) (h0:y≠0):Ev Tryz.prog:=dynRf fun i j n k=>eRQuo i j n k hx hy h0
def sEReal (x:Rat):Spec Tryz.prog :=
 Spec.auto Tryz.call176 [rV 0] [ratT x] (.one (.a [.b (.z 0 0),.b (.v (.pointer none))])) [] [] [] 100 Tryz.func176 hmA (by kernel_rfl) (fun β=>by kernel_rfl)
def sEInt (n m:Int) (hn : -9223372036854775808≤n∧n≤9223372036854775807) (hm : -9223372036854775808≤m∧m≤9223372036854775807):Spec Tryz.prog :=
 Spec.auto Tryz.call165 [.one (.c (.b (.v (.int .i64 n)))),.one (.c (.b (.v (.int .i64 m))))] [] (nV 0) [ratT (Rat.divInt n 1),ratT (Rat.divInt m 1)]
  [nNew n 1 hn (by decide) (by decide),nNew m 1 hm (by decide) (by decide)] [] 400 Tryz.func165 hmA (by kernel_rfl) (fun β=>by kernel_rfl)
abbrev z34:GQ:=gint (-3) 4
theorem z34_fit:FitG z34:=fit_int (by decide) (by decide)
abbrev nrm34:Rat:=(gmul z34 (gconj z34)).re
abbrev rt34:Rat:=Rat.divInt (5:Nat) (1:Nat)
abbrev mid34:Rat:=(rt34+z34.re)*half12
abbrev a34:Rat:=Rat.divInt (1:Nat) (1:Nat)
abbrev b34:Rat:=z34.im*half12
abbrev q34:GQ:=⟨b34/a34,0⟩
abbrev i01:GQ:=⟨Rat.divInt 0 1,Rat.divInt 1 1⟩
abbrev s34:GQ:=gadd ⟨a34,0⟩ (gmul q34 i01)
theorem root_nrm34:RootD nrm34 25 1 5 1:=⟨by kernel_rfl,by kernel_rfl,by decide,by decide,by decide,by decide,by decide,by decide,by decide,by rw [sz_le]; decide,by rw [sz_le]; decide⟩
theorem root_mid34:RootD mid34 1 1 1 1:=⟨by kernel_rfl,by kernel_rfl,by decide,by decide,by decide,by decide,by decide,by decide,by decide,by rw [sz_le]; decide,by rw [sz_le]; decide⟩
theorem sz_rt34:Sz 8 rt34:=sz_lit 5 1 (by decide) (by decide) (by decide)
theorem sz_a34:Sz 8 a34:=sz_lit 1 1 (by decide) (by decide) (by decide)
theorem a34_ne:a34≠0:=by
 have:decide (a34=0)=false:=by kernel_rfl
 exact of_decide_eq_false this
theorem sz_b34:Sz KB b34:=(z34_fit.gsz.2.mul sz_half).mono (by decide)
theorem sz_q34:GSz 2048 q34:=⟨((z34_fit.gsz.2.mul sz_half).div sz_a34 a34_ne).mono (by decide),sz_zero.mono (by decide)⟩
theorem sz_i01:GSz 8 i01:=⟨sz_lit 0 1 (by decide) (by decide) (by decide),sz_lit 1 1 (by decide) (by decide) (by decide)⟩
theorem sz_a340:GSz 8 ⟨a34,0⟩:=⟨sz_a34,sz_zero.mono (by decide)⟩
noncomputable def sSqrt34:Spec Tryz.prog :=
 Spec.auto Tryz.call168 [nV 0] (gM z34) (.tup [nA 2,nI' 0]) (gT s34)
  [(sParts z34).e,(sConj z34).e,(sMul (z34_fit.gsz.mono (by decide)) (z34_fit.gsz.conj.mono (by decide))).e,(sParts (gmul z34 (gconj z34))).e,
   (sRoot ((z34_fit.gsz.mul z34_fit.gsz.conj).1.mono (by decide)) root_nrm34 (t:=true) (by kernel_rfl)).e,nNew 1 2 (by decide) (by decide) (by decide),mkR,mkR,fAdd (sz_rt34.mono (by decide)) (z34_fit.gsz.1.mono (by decide)),fMul ((sz_rt34.add z34_fit.gsz.1).mono (by decide)) (sz_half.mono (by decide)),
   (sRoot (((sz_rt34.add z34_fit.gsz.1).mul sz_half).mono (by decide)) root_mid34 (t:=true) (by kernel_rfl)).e,nSign (x:=a34) (c:=1) (by kernel_rfl),mkR,fMul (z34_fit.gsz.2.mono (by decide)) (sz_half.mono (by decide)),
   (sEReal a34).e,rQuo sz_b34 (sz_a34.mono (by decide)) a34_ne,(sEReal (b34/a34)).e,(sEInt 0 1 (by decide) (by decide)).e,(sMul (sz_q34.mono (by decide)) (sz_i01.mono (by decide))).e,(sAdd (sz_a340.mono (by decide)) ((sz_q34.mul sz_i01).mono (by decide))).e] [(2,10)] 1200 Tryz.func168 hmA (by kernel_rfl) (fun β=>by kernel_rfl)
theorem s34_eq:s34=gint 1 2:=by
 have h1:decide (s34.re=(gint 1 2).re)=true:=by kernel_rfl
 have h2:decide (s34.im=(gint 1 2).im)=true:=by kernel_rfl
 exact congr (congrArg GQ.mk (of_decide_eq_true h1)) (of_decide_eq_true h2)
abbrev z12:GQ:=gint 1 2
theorem z12_fit:FitG z12:=fit_int (by decide) (by decide)
noncomputable def sMadeSqrt34:OSpec Tryz.prog :=
 OSpec.auto Tryz.call277 [nV 0,nV 2,.one (.c (.b (.p 4 0)))] ([(ratM z34.re).ob,(ratM z34.im).ob,(ratM z34.re).ob,(ratM z34.im).ob,.box [fnL 168] FT1]) (.tup [nA 5,nI' 0]) [s34.re,s34.im] [sSqrt34.e] [] 400 Tryz.func277 hmA (by kernel_rfl) (fun β=>by kernel_rfl)
noncomputable def sTwoSqrt34:OSpec Tryz.prog :=
 OSpec.auto Tryz.call273 [gS z34,gS z34,.one (.c madeL)] [.box [fnL 168] FT1] (gA2 s34) [] [(sOpened z34_fit z34_fit).e,dIdx 168 (numR z34 z34),dNum 168 (numR z34 z34),dIdx 168 (numR z34 z34),dNum 168 (numR z34 z34),sMadeSqrt34.e,(sTold (z:=s34) (by rw [s34_eq]; exact z12_fit.gsz.mono (by decide))).e] [(4,13012013)] 800 Tryz.func273 hmA (by kernel_rfl) (fun β=>by kernel_rfl)
noncomputable def sMadeS34:Spec Tryz.prog :=
 Spec.auto Tryz.call162 [gS z34,.one (.c (fnL 168))] [] (gA2 s34) [] [sTwoSqrt34.e] [] 400 Tryz.func162 hmA (by kernel_rfl) (fun β=>by kernel_rfl)
noncomputable def sGSqrt34:Spec Tryz.prog :=
 Spec.auto Tryz.call44 [gS z34] [] (gA2 s34) [] [sMadeS34.e] [] 400 Tryz.func44 hmA (by kernel_rfl) (fun β=>by kernel_rfl)
theorem sq_parts (r:Rat):(r*r).num=r.num*r.num∧((r*r).den:Int)=(r.den:Int)*r.den:=by
 have hd:=r.den_pos
 have h0:(r.den:Int)*r.den≠0:=Int.mul_ne_zero (den_ne r) (den_ne r)
 have hp:¬ ((r.den:Int)*r.den<0):=Int.not_lt.2 (Int.mul_nonneg (by omega) (by omega))
 have hg:Nat.gcd (r.num*r.num).natAbs ((r.den:Int)*r.den).natAbs=1:=by
  rw [Int.natAbs_mul,Int.natAbs_mul,Int.natAbs_natCast]
  have h:=r.reduced
  exact Nat.Coprime.mul_left (Nat.Coprime.mul_right h h) (Nat.Coprime.mul_right h h)
 obtain ⟨_,_,_,h4,h5⟩:=divInt_parts (r.num*r.num) ((r.den:Int)*r.den) h0 1 (by rw [if_neg hp,hg]; rfl)
 rw [Int.ediv_one] at h4 h5
 rw [← divInt_mul]
 exact ⟨h4,h5⟩
theorem pow_dig (m:Nat):(4294967296:Nat)^(m+1)=256^(4*m)*4294967296:=by
 rw [Nat.pow_succ,Nat.pow_mul]
theorem dig_big {n k:Nat} (h:n<256^k) (hk:k≤8000):(dig (5*n)).length≤4294967296:=by
 obtain ⟨m,hm⟩:∃ m:Nat,m=2000:=⟨_,rfl⟩
 have hkm:k≤4*m:=by omega
 refine Nat.le_trans (dig_len_le (5*n) (m+1) ?_) (by omega)
 have h1:256^k≤256^(4*m):=Nat.pow_le_pow_right (by decide) hkm
 rw [pow_dig]
 generalize (256:Nat)^(4*m)=z at h1
 omega
abbrev KS:Nat:=4000
structure RootB (x:Rat) (n d a b:Nat):Prop where
 hn:x.num=(n:Int)
 hd:(x.den:Int)=(d:Int)
 a1:a*a≤n
 a2:n<(a+1)*(a+1)
 b1:b*b≤d
 b2:d<(b+1)*(b+1)
 ln:(dig (5*n)).length≤4294967296
 ld:(dig (5*d)).length≤4294967296
 b0:(b:Int)≠0
 sa:sz (a:Int)≤KS
 sb:sz (b:Int)≤KS
def Spec.newsAs {P:Program} (S:Spec P) (l:List Thing) (h:S.news=l):Spec P :=
 ⟨S.f,S.en,S.args,S.obs,S.res,l,fun β w hh=>by rw [← h]; exact S.ok β w hh,by rw [← h]; exact S.closed⟩
def sRootB {x:Rat} (hx:Sz KB x) {n d a b:Nat} (h:RootB x n d a b) {t:Bool} (ht:decide (Rat.divInt a b*Rat.divInt a b=x)=t):Spec Tryz.prog :=
 Spec.auto Tryz.call171 [rV 0] [ratT x] (.tup [.c (.b (.z 1 0)),.c (.b (.v (.bool t)))]) [ratT (Rat.divInt a b)]
  [nSign (x:=x) rfl,.eqv 9 (.bool (decide (x.num.sign<0))) (.bool false) (nat_sign h.hn),mkI,nNum x,fSqrt h.hn h.a1 h.a2 h.ln,mkI,nDenom x,fSqrt h.hd h.b1 h.b2 h.ld,mkR,fSetFrac h.b0 (Nat.le_trans h.sa (by decide)) (Nat.le_trans h.sb (by decide)),
   mkR,fMul ((sz_divInt h.b0 h.sa h.sb).mono (by decide)) ((sz_divInt h.b0 h.sa h.sb).mono (by decide)),nCmp (c:=cmpQ (Rat.divInt a b*Rat.divInt a b) x) (((sz_divInt h.b0 h.sa h.sb).mul (sz_divInt h.b0 h.sa h.sb)).mono (by decide)) hx rfl,.eqv 29 (.bool (cmpQ (Rat.divInt a b*Rat.divInt a b) x==0)) (.bool t) (cmp_root ht)]
  [] 800 Tryz.func171 hmA (by kernel_rfl) (fun β=>by kernel_rfl)
theorem nat_abs {n:Int} (h:0≤n):((n.natAbs:Nat):Int)=n:=Int.natAbs_of_nonneg h
theorem rootB_sq {x r:Rat} (hx:x=r*r) (h0:0≤r.num) (hr:Sz KS r):RootB x (r.num.natAbs*r.num.natAbs) (r.den*r.den) r.num.natAbs r.den:=by
 have hs:=sq_parts r
 have s1:r.num.natAbs<256^KS:=sz_le.1 hr.1
 have s2:r.den<256^KS:=by have:=sz_le.1 hr.2; rwa [Int.natAbs_natCast] at this
 obtain ⟨K,hK⟩:∃ K:Nat,K=KS:=⟨_,rfl⟩
 have key:∀ n:Nat,n<256^KS→n*n<256^(K+K):=fun n h=>by
  rw [Nat.pow_add,hK]
  exact Nat.mul_lt_mul'' h h
 have hk2:K+K≤8000:=by rw [hK]; decide
 refine ⟨?_,?_,Nat.le_refl _,Nat.mul_lt_mul'' (Nat.lt_succ_self _) (Nat.lt_succ_self _),Nat.le_refl _,Nat.mul_lt_mul'' (Nat.lt_succ_self _) (Nat.lt_succ_self _),dig_big (key _ s1) hk2,dig_big (key _ s2) hk2,den_ne r,?_,hr.2⟩
 · rw [hx,hs.1,Int.natCast_mul,nat_abs h0]
 · rw [hx,hs.2,Int.natCast_mul]
 · rw [nat_abs h0]; exact hr.1
theorem divInt_abs {r:Rat} (h0:0≤r.num):Rat.divInt ((r.num.natAbs:Nat):Int) ((r.den:Nat):Int)=r:=by
 rw [nat_abs h0,Rat.num_divInt_den]
def sRootQ {x r:Rat} (hx:x=r*r) (h0:0≤r.num) (hr:Sz KS r):Spec Tryz.prog :=
 (sRootB (x:=x) (t:=true) (by rw [hx]; exact (hr.mul hr).mono (by decide)) (rootB_sq hx h0 hr) (by rw [divInt_abs h0,hx]; exact decide_eq_true rfl)).newsAs [ratT r] (by
  show [ratT (Rat.divInt ((r.num.natAbs:Nat):Int) ((r.den:Nat):Int))]=_
  rw [divInt_abs h0])
theorem gnorm_nn (u:GQ):0≤(gnorm u).num:=by
 have:0≤gnorm u:=by
  unfold gnorm
  have h1:∀ x:Rat,0≤x*x:=fun x=>by
   rcases Rat.le_total (a:=0) (b:=x) with h | h
   · exact Rat.mul_nonneg h h
   · have:=Rat.mul_nonneg (a:=-x) (b:=-x) (by grind) (by grind)
     grind
  exact Rat.add_nonneg (h1 _) (h1 _)
 exact Rat.num_nonneg.2 this
section
variable (u:GQ)
theorem i01_parts:i01=⟨0,1⟩:=by
 have h1:decide (Rat.divInt 0 1=0)=true:=by kernel_rfl
 have h2:decide (Rat.divInt 1 1=1)=true:=by kernel_rfl
 exact congr (congrArg GQ.mk (of_decide_eq_true h1)) (of_decide_eq_true h2)
end
theorem sign_neG {x:Rat} {t:Bool} (h:decide (x=0)=!t):Value.bool (!(x.num.sign==0))=.bool t:=by
 have:=sign_num x (b:=!t) h
 rw [Value.bool.injEq] at this
 rw [this,Bool.not_not]
section
variable {u:GQ} (hu:GSz 64 u)
include hu
end
def sNum4 (k:Int):Spec Tryz.prog:=Spec.auto Tryz.call160 [.one (nI' k)] [] (.one (nI' k)) [] [] [] 400 Tryz.func160 hmA (by kernel_rfl) (fun β=>by kernel_rfl)
noncomputable def sR4Told (z:GQ):Spec Tryz.prog :=
 ⟨179,Tryz.call179,[gS z],[],gA2 z,[],fun β w hh=>by
  by_cases h:FitG z
  · rw [show gA2 z=.tup [.a (gC z),nI' 0] by show SV.tup [.a (gaC z),nI' (gaK z)]=_; rw [(ga_fit h).1,(ga_fit h).2]]
    exact spec_auto (evs:=[(sR4Fits z (iff_true_of h)).e]) (Ns:=[]) (m:=400) Tryz.func179 hmA (fun β=>by kernel_rfl) (by kernel_rfl) β w hh
  · rw [show gA2 z=.tup [.a g0C,nI' 4] by show SV.tup [.a (gaC z),nI' (gaK z)]=_; rw [(ga_not h).1,(ga_not h).2]]
    exact spec_auto (evs:=[(sR4Fits z (iff_false_of h)).e]) (Ns:=[]) (m:=400) Tryz.func179 hmA (fun β=>by kernel_rfl) (by kernel_rfl) β w hh,by kernel_rfl⟩
noncomputable def gaR (z:GQ):R4:=⟨gaB z,gaS z,false,gaD z⟩
noncomputable def gaR' (z:GQ):R4:=⟨gaB' z,gaS' z,false,gaD' z⟩
theorem geq_self2 (x y:R4):(x.eq x&&(y.eq y&&true))=true:=geq_self x y
def eqG0:Ev Tryz.prog:=eqEvG r40 r40 r40 r40 true (geq_self2 _ _)
noncomputable def sIs4 (z:GQ):Spec Tryz.prog :=
 Spec.auto Tryz.call46 [.one (.a (gaC z)),.one (nI' (gaK z)),tB' true,.one (nI' 0),gS z] [] (tB' true) []
  [(sR4Told z).e,eqEvG (gaR z) (gaR' z) (gaR z) (gaR' z) true (geq_self2 _ _),(sNum4 (gaK z)).e,.eqv 46 (.bool (gaK z==gaK z)) (.bool true) (ieq_self _)] [] 400 Tryz.func46 hmA (by kernel_rfl) (fun β=>by kernel_rfl)
def sIs4No (x y:R4):Spec Tryz.prog :=
 Spec.auto Tryz.call46 [.one (.a g0C),.one (nI' 2),tB' false,.one (nI' 0),.one (.a (rL x++rL y))] [] (tB' true) [] [eqG0,(sNum4 2).e] [] 400 Tryz.func46 hmA (by kernel_rfl) (fun β=>by kernel_rfl)
def sIs4Z (z:GQ):Spec Tryz.prog :=
 Spec.auto Tryz.call46 [.one (.a g0C),.one (nI' 5),tB' true,.one (nI' 5),gS z] [] (tB' true) [] [eqG0,(sNum4 5).e] [] 400 Tryz.func46 hmA (by kernel_rfl) (fun β=>by kernel_rfl)
def sGM (g:Gp) {r:Bool} (h:g.B=r):Spec Tryz.prog :=
 (sGMay g.a.a g.b.a).as [g.C] (tB' r) (by
  show [SV.one (.a (g.a.a.C++g.b.a.C))]=[SV.one (.a (rL g.a.r++rL g.b.r))]
  rw [show g.a.a.C=rL g.a.r from g.a.e,show g.b.a.C=rL g.b.r from g.b.e]) (congrArg tB' h)
end Go.Proofs.YtmfedaakeeiolaaGreat.Y
end
section
namespace Go.Proofs.YtmfedaakeeiolaaGreat
open Go.RowKit
def pv (g:Nat):Value:=.pointer (some ⟨g,0,none⟩)
theorem ptr_info:(Tryz.prog.info? 272).map (fun i=>(i.zero,i.size,i.bytes))=some (some (.pointer none),1,8):=by kernel_rfl
def PRow (w:World) (base:Nat) (v:Value) (zs:List Nat):Prop:=w.ownsRow base 272 1 v zs.length (zs.map pv)
theorem PRow.nil (w:World) (base:Nat):PRow w base (.slice none 0 0) []:=by simpa [PRow] using World.ownsRow_nil w base 272 1
theorem PRow.alloc {w:World} {base:Nat} {v:Value} {zs:List Nat} (h:PRow w base v zs) (o:Obj):PRow (w.alloc o) base v zs:=World.ownsRow.alloc h o
theorem PRow.open_ {w:World} {base:Nat} {v:Value} {zs:List Nat} (h:PRow w base v zs) (h0:0<zs.length) :
  ∃ g cap,v=.slice (some ⟨g,0,none⟩) zs.length cap∧base≤g∧g<w.heap.size∧∀ i,i<zs.length→w.cell? ⟨g,i,none⟩=some (pv (zs.getD i 0)):=by
 obtain ⟨hlen,h2⟩:=h
 rcases h2 with ⟨rfl,h1⟩ | ⟨g,cap,cur,rfl,hg,hh,hc,_,hcs,ht⟩
 · omega
 · refine ⟨g,cap,rfl,hg,heap_some_lt hh,fun i hi=>?_⟩
   have h3:(cur.toList.take (zs.length*1))[i]?=(zs.map pv)[i]?:=by rw [ht]
   rw [List.getElem?_take_of_lt (by omega),List.getElem?_map,List.getElem?_eq_getElem hi] at h3
   rw [cell_of_row _ _ _ _ _ _ hh,← Array.getElem?_toList,h3,getD_in hi]
   rfl
theorem wpList_append_ptr {ops:Array Oper} {rest:List Oper} {o:Oper} {a:Act} {w:World} {Q:Exit→Act→World→Prop} (hg:o.guard=none) (s x:Operand)
  (ho:o.op=.call { callee:=.builtin .append,args:=#[s,x],argTypes:=#[288,288] })
  (base:Nat) (v:Value) (zs:List Nat) (hs:a.eval s=v) (hown:PRow w base v zs) (ad:Addr) (c:Nat) (y:Nat) (hx:a.eval x=.slice (some ad) 1 c) (hcell:w.cell? ad=some (pv y))
  (hlen:zs.length≤17179869184) (hbase:base≤w.heap.size)
  (hK:∀ v' w',PRow w' base v' (zs++[y])→Below base w w'→w.grownBy w' v.ownBlock→wpList Tryz.prog ops Q rest (a.put o.dst v') w'):wpList Tryz.prog ops Q (o::rest) a w:=by
 obtain ⟨i0,hi,hz0,hz1,hz2⟩:=info_parts ptr_info
 refine wpList_append_own w hg s x 288 ho base 272 i0 (.pointer none) 1 8 Tryz.underlying288 hi hz0 hz1 hz2 rfl (by decide) v zs.length (zs.map pv) hs hown ad 1 c [pv y] hx rfl ?_ ?_ (by simp only [maxLen]; omega) (by omega) hbase ?_
 · intro j u hj
   cases j with
   | zero =>
    simp at hj
    subst hj
    simpa [Addr.add] using hcell
   | succ j=>simp at hj
 · intro u hu
   simp at hu
   subst hu
   rfl
 · intro v' w' h1 h2 _
   refine hK v' w' (by simpa [PRow] using h1) ((Below.refl _ _).grown h2 hbase fun k hk=>?_) h2
   · rcases hown.2 with ⟨rfl,_⟩ | ⟨g,cap,cur,rfl,hb,_⟩
     · simp [Value.ownBlock] at hk
     · simp [Value.ownBlock] at hk
       omega
def OfPost (b:Bool) (s:ByteArray) (w:World) (e:Ending) (w':World):Prop :=
 ((WholeOk b s∧∃ h cap p,e=.returned (.tuple #[.slice (some ⟨h,0,none⟩) 1 cap,.bool true])∧w'.cell? ⟨h,0,none⟩=some (.pointer (some ⟨p,0,none⟩))∧IntAt w' p 0 (numOf b s)) ∨
  (¬ WholeOk b s∧e=.returned (.tuple #[.slice none 0 0,.bool false])))∧Below w.heap.size w w'
def OfPost2 (b:Bool) (s:ByteArray) (w:World) (e:Ending) (w':World):Prop :=
 ((WholeOk b s∧∃ h cap p,e=.returned (.tuple #[.slice (some ⟨h,0,none⟩) 1 cap,.bool true])∧w'.cell? ⟨h,0,none⟩=some (.pointer (some ⟨p,0,none⟩))∧IntAt w' p 0 (numOf b s)∧Hid (w.heap.size≤h∧w.heap.size≤p)) ∨
  (¬ WholeOk b s∧e=.returned (.tuple #[.slice none 0 0,.bool false])))∧Below w.heap.size w w'
set_option maxHeartbeats 1600000 in
set_option maxRecDepth 100000 in
theorem of_one2 {w0:World} {a cap:Nat} (b:Bool) (s:ByteArray) (hs:s.size≤4294967296) {T:TypeId} (ha:BoxAt w0 a #[.bool b,.string s] T) :
  Calls Tryz.prog 325 #[.slice (some ⟨a,0,none⟩) 1 cap] w0 (OfPost2 b s w0):=by
 have hcv:=fun (w:World)=>run_bytes_of_string (P:=Tryz.prog) w 9 343 5 s Tryz.underlying9 Tryz.underlying343 Tryz.underlying5
 have HS:=Lib.hid hs
 have HS2:Hid (s.size≤maxLen):=by unfold Hid maxLen; omega
 have HX:=Lib.hid ha
 have hc0:=ha.cell 0 (.bool b) rfl
 have hc1:=ha.cell 1 (.string s) rfl
 clear hs ha
 go_enter Tryz.func325,Tryz.ntmps325
 go_wp2
 go_loopw [4,10] (fun v i wr=>Below w0.heap.size w0 wr∧((v=.slice none 0 0∧i=.int .i64 0)∨(WholeOk b s∧i=.int .i64 1∧∃ h cap p,v=.slice (some ⟨h,0,none⟩) 1 cap∧wr.cell? ⟨h,0,none⟩=some (.pointer (some ⟨p,0,none⟩))∧IntAt wr p 0 (numOf b s)∧Hid (w0.heap.size≤h∧w0.heap.size≤p)))) (fun _ i _=>1-(intOf i).toNat)
 case atStart=>exact ⟨Below.refl _ _,.inl ⟨rfl,rfl⟩⟩
 case round =>
  obtain ⟨hb,h | h⟩:=hrel
  · obtain ⟨rfl,rfl⟩:=h
    have HBR:=Lib.hid hb
    have hd0:=(HX.out.on hb).cell 0 (.bool b) rfl
    have hd1:=(HX.out.on hb).cell 1 (.string s) rfl
    have HN:=Lib.hid (BoxAt.new wr #[.bool b,.string s] 23)
    have HBN:=Lib.hid (below_new wr (.cells #[.bool b,.string s] 23))
    clear hb hc0 hc1
    go_wp2_with fail
    refine (Check_any b s HS2.out).mono ?_
    rintro e w1 ⟨k,rfl,hk,hb⟩
    have HB1:=Lib.hid ((HBR.out.trans (HBN.out.mono HBR.out.size)).trans (hb.mono (Nat.le_trans HBR.out.size HBN.out.size)))
    have HN1:=Lib.hid (HN.out.on hb)
    have hl1:wr.heap.size<w1.heap.size:=HN1.out.lt
    clear hb hd0 hd1
    by_cases ho:WholeOk b s
    · obtain rfl:k=0:=hk.elim (fun h=>h.1) (fun h=>absurd ho h.2)
      have HO:=Lib.hid ho
      have hn0:=HN1.out.cell 0 (.bool b) rfl
      have hn1:=HN1.out.cell 1 (.string s) rfl
      clear hk ho
      go_wp2_with fail
      generalize hW2:w1.alloc (.cells #[.bool false,.slice none 0 0] 211)=W2
      have hi:IntAt W2 w1.heap.size 0 0:=by rw [← hW2]; exact IntAt.new _
      have hx:BoxAt W2 wr.heap.size #[.bool b,.string s] 23:=by rw [← hW2]; exact HN1.out.on (below_new _ _)
      have hb:Below w1.heap.size w1 W2:=by rw [← hW2]; exact below_new _ _
      have hsz:w1.heap.size+1=W2.heap.size:=by rw [← hW2]; simp
      have hby:=byt_row (W:=W2) s (grownCap W2 s.size 0 5) (grownCap W2 s.size 0 5) (w1.heap.size+1) ((bytesRow s (grownCap W2 s.size 0 5)).size,(bytesRow s (grownCap W2 s.size 0 5)).size+1) hsz
      have hbl:=below_row W2 (bytesRow s (grownCap W2 s.size 0 5)) 5 ((bytesRow s (grownCap W2 s.size 0 5)).size,(bytesRow s (grownCap W2 s.size 0 5)).size+1)
      clear hW2
      generalize grownCap W2 s.size 0 5=c at hby hbl ⊢
      generalize (W2.alloc (.cells (bytesRow s c) 5 ((bytesRow s c).size,(bytesRow s c).size+1))).drew=W3 at hby hbl ⊢
      refine (SetBytes_any (hi.on hbl).slot hby HS.out).mono ?_
      rintro e w4 ⟨rfl,h1,h2⟩
      rw [List.reverse_reverse] at h1
      have HT:=Lib.hid (h2.below (B:=w1.heap.size) (Nat.le_refl _) (by have:=hbl.size; omega))
      have HB4:=Lib.hid ((hb.trans (hbl.mono hb.size)).trans HT.out)
      have hd0:w4.cell? ⟨wr.heap.size,0,none⟩=some (.bool b):=by rw [HB4.out.cell (by simp; omega)]; exact HN1.out.cell 0 _ rfl
      have HI:=Lib.hid h1
      have HBB:=Lib.hid (HB1.out.trans (HB4.out.mono HB1.out.size))
      clear h1 h2 hi hx hb hsz hby hbl hn0 hn1
      cases b
      · have HV:Hid (IntAt w4 w1.heap.size 0 (numOf false s)):=by
         have:=HI.out
         simpa [Hid,numOf,sg,num] using this
        go_wp2_with (at_builtin; refine wpList_append_ptr rfl (.tmp 32) (.tmp 34) rfl w0.heap.size _ [] rfl ((PRow.nil _ _).alloc _) ⟨w4.heap.size,0,none⟩ 1 w1.heap.size rfl (cell_new0 _ _ _) ?_ ?_ ?_)
        · exact Nat.zero_le _
        · have:=HBB.out.size; simp; omega
        intro v' w6 hrow hb6 hgr
        obtain ⟨h,cap2,rfl,hge,hlt,hcc⟩:=hrow.open_ (by simp)
        have HG:Hid (w0.heap.size≤h∧w0.heap.size≤w1.heap.size):=⟨hge,HB1.out.size⟩
        clear hge
        have HC:=Lib.hid (hcc 0 (by simp))
        have HB6:=Lib.hid ((HBB.out.trans ((below_new w4 (.cells #[.pointer (some ⟨w1.heap.size,0,none⟩)] 272)).mono HBB.out.size)).trans hb6)
        have HV6:=Lib.hid ((HV.out.on (below_new w4 (.cells #[.pointer (some ⟨w1.heap.size,0,none⟩)] 272))).on (Below.grown (Below.refl _ _) hgr (Nat.le_refl _) (fun k hk=>by simp [Value.ownBlock] at hk)))
        clear hrow hb6 hgr hcc
        go_wp2
        go_roundw
        case rel=>exact ⟨HB6.out,.inr ⟨HO.out,by go_num,h,cap2,_,rfl,HC.out,HV6.out,HG⟩⟩
        case measure=>simp [intOf]
      · go_wp2_with fail
        refine (neg_any HI.out.slot HI.out).mono ?_
        rintro e w5 ⟨rfl,h1,h2⟩
        have HV:Hid (IntAt w5 w1.heap.size 0 (numOf true s)):=by
         have:=h1
         simpa [Hid,numOf,sg,num] using this
        have HB5:=Lib.hid (HBB.out.trans (h2.below (B:=w0.heap.size) (by have:=HB1.out.size; omega) HBB.out.size))
        clear h1 h2 hd0
        go_wp2_with (at_builtin; refine wpList_append_ptr rfl (.tmp 32) (.tmp 34) rfl w0.heap.size _ [] rfl ((PRow.nil _ _).alloc _) ⟨w5.heap.size,0,none⟩ 1 w1.heap.size rfl (cell_new0 _ _ _) ?_ ?_ ?_)
        · exact Nat.zero_le _
        · have:=HB5.out.size; simp; omega
        intro v' w6 hrow hb6 hgr
        obtain ⟨h,cap2,rfl,hge,hlt,hcc⟩:=hrow.open_ (by simp)
        have HG:Hid (w0.heap.size≤h∧w0.heap.size≤w1.heap.size):=⟨hge,HB1.out.size⟩
        clear hge
        have HC:=Lib.hid (hcc 0 (by simp))
        have HB6:=Lib.hid ((HB5.out.trans ((below_new w5 (.cells #[.pointer (some ⟨w1.heap.size,0,none⟩)] 272)).mono HB5.out.size)).trans hb6)
        have HV6:=Lib.hid ((HV.out.on (below_new w5 (.cells #[.pointer (some ⟨w1.heap.size,0,none⟩)] 272))).on (Below.grown (Below.refl _ _) hgr (Nat.le_refl _) (fun k hk=>by simp [Value.ownBlock] at hk)))
        clear hrow hb6 hgr hcc
        go_wp2
        go_roundw
        case rel=>exact ⟨HB6.out,.inr ⟨HO.out,by go_num,h,cap2,_,rfl,HC.out,HV6.out,HG⟩⟩
        case measure=>simp [intOf]
    · obtain rfl:k=2:=hk.elim (fun h=>absurd h.2 ho) (fun h=>h.1)
      have HO:=Lib.hid ho
      clear hk ho
      go_wp2
      go_ret2
      exact ⟨.inr ⟨HO.out,rfl⟩,HB1.out⟩
  · obtain ⟨ho,rfl,h,cap2,p,rfl,hc,hi,HG⟩:=h
    have HO:=Lib.hid ho
    have HC:=Lib.hid hc
    have HI:=Lib.hid hi
    have HB:=Lib.hid hb
    clear ho hc hi hb hc0 hc1
    go_wp2
    go_ret2
    exact ⟨.inl ⟨HO.out,h,cap2,p,rfl,HC.out,HI.out,HG⟩,HB.out⟩
theorem of_one {w0:World} {a cap:Nat} (b:Bool) (s:ByteArray) (hs:s.size≤4294967296) {T:TypeId} (ha:BoxAt w0 a #[.bool b,.string s] T) :
  Calls Tryz.prog 325 #[.slice (some ⟨a,0,none⟩) 1 cap] w0 (OfPost b s w0) :=
 (of_one2 b s hs ha).mono fun e w' ⟨h,hb⟩=>⟨h.imp (fun ⟨ho,h,cap,p,h1,h2,h3,_⟩=>⟨ho,h,cap,p,h1,h2,h3⟩) id,hb⟩
theorem fracV_num {b c:Bool} {s t:ByteArray} {x:Rat} (h:FracParts b s c t x):WholeOk b s∧numOf b s=x.num:=by
 have h1:=(isFrac_parts h.isFrac).1
 obtain ⟨rfl,rfl,_,_⟩:=agg4 h.val
 exact ⟨h1,numOf_mag _⟩
theorem fracV_inj {x y:Rat} (h:fracV x=fracV y):x=y:=by
 obtain ⟨h1,h2,_,h4⟩:=agg4 h
 have e1:x.num=y.num:=sg_inj h1 (mag_inj h2)
 have e2:x.den=y.den:=mag_inj h4
 exact Rat.ext e1 e2
end Go.Proofs.YtmfedaakeeiolaaGreat
end
