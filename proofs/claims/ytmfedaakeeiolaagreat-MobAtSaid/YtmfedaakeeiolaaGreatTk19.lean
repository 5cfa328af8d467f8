/- SyC, LgF, MoB. -/
import Derived.Test.YtmfedaakeeiolaaGreatTk18
set_option linter.unnecessarySimpa false
set_option linter.unusedVariables false
set_option linter.unusedSimpArgs false
section
namespace Go.Proofs.YtmfedaakeeiolaaGreat.Y
open Go Go.RowKit
inductive Stop (P:Program) where
 | ended (f:Cf P)
 | head (c:Code) (ks:List Kf) (f:Cf P)
def Stop.cf {P:Program}:Stop P→Cf P
 | .ended f=>f
 | .head _ _ f=>f
def runP (P:Program) (m0 n:Nat) (Ns:List (Nat × Nat)):Nat→Option Code→List Kf→Cf P→Option (Stop P)
 | 0,_,_,_=>none
 | m+1,oc,ks,f=>match oc with
  | none=>match ks with
   | []=>some (.ended f)
   | .sq c::r=>runP P m0 n Ns m (some c) r f
   | .bl _::r=>runP P m0 n Ns m none r f
   | .lp c::r=>match f.ev with
    | .cut::ev'=>some (.head c r { f with ev:=ev' })
    | _=>runP P m0 n Ns m (some c) (.lp c::r) f
   | .sc::r=>runP P m0 n Ns m none r f
  | some c=>match c with
   | .skip=>runP P m0 n Ns m none ks f
   | .label _=>runP P m0 n Ns m none ks f
   | .region id ops d=>match (bif d then drawS1 P m0 n Ns id ops.toList f else seqS P m0 n ops ops.toList f) with
    | some f'=>runP P m0 n Ns m none ks f'
    | none=>none
   | .seq a b=>runP P m0 n Ns m (some a) (.sq b::ks) f
   | .cond x a b=>match evS idE f.sl x with
    | .bool true=>runP P m0 n Ns m (some a) ks { f with cs:=(fun β=>[(.v (evS β f.sl x),.v (.bool true))])::f.cs }
    | .bool false=>runP P m0 n Ns m (some b) ks { f with cs:=(fun β=>[(.v (evS β f.sl x),.v (.bool false))])::f.cs }
    | _=>none
   | .block id c=>runP P m0 n Ns m (some c) (.bl id::ks) f
   | .loop c=>match f.ev with
    | .cut::ev'=>some (.head c ks { f with ev:=ev' })
    | _=>runP P m0 n Ns m (some c) (.lp c::ks) f
   | .scope c=>runP P m0 n Ns m (some c) (.sc::ks) f
   | .exit id=>match popTo id ks with
    | some r=>runP P m0 n Ns m none r f
    | none=>none
   | .ret=>some (.ended f)
   | _=>none
def Stop.after {P:Program} (Q:Exit→Act→World→Prop) (a:Act) (w:World):Stop P→Prop
 | .ended _=>Q .normal a w∧Q .ret a w
 | .head c ks _=>Rounds P c (post P Q ks) a w
theorem Sync.ev {P:Program} {m0 n:Nat} {B0:Bd} {w0:World} {c:Cf P} {β:Env} {a:Act} {w:World} (h:Sync P m0 n B0 w0 c β a w) (x:List (Ev P)):Sync P m0 n B0 w0 { c with ev:=x } β a w:=⟨h.good,h.q,h.sl,h.of,h.m0,h.defers,h.uq⟩
theorem runP_ok {P:Program} {m0 n:Nat} {Ns:List (Nat × Nat)} (hm:P.follows .mixedOrders=true):∀ (m:Nat) (oc:Option Code) (ks:List Kf) (f:Cf P) (s:Stop P),runP P m0 n Ns m oc ks f=some s→f.full→(∀ x∈f.cs,x∈s.cf.cs)∧s.cf.full ∧
  (s.cf.good→∀ {B0:Bd} {w0:World} {β:Env} {a:Act} {w:World},Sync P m0 n B0 w0 f β a w→∀ (Q:Exit→Act→World→Prop),(∀ β' a' w',(∀ k,k<B0.k→β' k=β k)→Sync P m0 n B0 w0 s.cf β' a' w'→s.after Q a' w')→toShow P Q oc ks a w):=by
 intro m
 induction m with
 | zero=>intro oc ks f f' h; simp only [runP] at h; cases h
 | succ m ih =>
  intro oc ks f f' h hf
  simp only [runP] at h
  cases oc with
  | none =>
   dsimp only at h
   cases ks with
   | nil =>
    obtain rfl:=Option.some.inj h
    exact ⟨fun _ hx=>hx,hf,fun _ B0 w0 β a w s Q hQ=>(hQ β a w (fun _ _=>rfl) s).1⟩
   | cons x r =>
    cases x with
    | sq c=>obtain ⟨i1,i2,i3⟩:=ih _ _ _ _ h hf; exact ⟨i1,i2,fun hg B0 w0 β a w s Q hQ=>i3 hg s Q hQ⟩
    | bl j =>
     obtain ⟨i1,i2,i3⟩:=ih _ _ _ _ h hf
     exact ⟨i1,i2,fun hg B0 w0 β a w s Q hQ=>i3 hg s Q hQ⟩
    | lp c =>
     dsimp only at h
     split at h
     · obtain rfl:=Option.some.inj h
       exact ⟨fun _ hx=>hx,hf,fun _ B0 w0 β a w s Q hQ=>hQ β a w (fun _ _=>rfl) (s.ev _)⟩
     · obtain ⟨i1,i2,i3⟩:=ih _ _ _ _ h hf
       exact ⟨i1,i2,fun hg B0 w0 β a w s Q hQ=>rounds_one (i3 hg s Q hQ)⟩
    | sc=>obtain ⟨i1,i2,i3⟩:=ih _ _ _ _ h hf; exact ⟨i1,i2,fun hg B0 w0 β a w s Q hQ=>i3 hg s Q hQ⟩
  | some c =>
   cases c with
   | skip=>obtain ⟨i1,i2,i3⟩:=ih _ _ _ _ h hf; exact ⟨i1,i2,fun hg B0 w0 β a w s Q hQ=>wp_skip (i3 hg s Q hQ)⟩
   | label l=>obtain ⟨i1,i2,i3⟩:=ih _ _ _ _ h hf; exact ⟨i1,i2,fun hg B0 w0 β a w s Q hQ=>wp_label (i3 hg s Q hQ)⟩
   | region rid ops d =>
    dsimp only at h
    split at h
    · rename_i f1 h1
      cases d with
      | true =>
       simp only [cond_true] at h1
       have hf1:=drawS1_full h1 hf
       obtain ⟨i1,i2,i3⟩:=ih _ _ _ _ h hf1
       obtain ⟨j1,j2⟩:=drawS1_ok hm h1 (fun k hk=>(hf.1 k).1 hk) hf.2
       refine ⟨fun x hx=>i1 x (j1 x hx),i2,fun hg B0 w0 β a w s Q hQ=>?_⟩
       have:=j2 (fun β x hx=>hg β x (i1 x hx)) s (post P Q ks) fun β' a' w' e s'=>i3 hg s' Q fun β2 a2 w2 e2 s2=>hQ β2 a2 w2 (fun k hk=>(e2 k hk).trans (e k hk)) s2
       unfold RegAny at this
       simp only [Array.toArray_toList] at this
       exact wp_region_any hm this
      | false =>
       simp only [cond_false] at h1
       have hf1:=seqS_full h1 hf
       obtain ⟨i1,i2,i3⟩:=ih _ _ _ _ h hf1
       obtain ⟨j1,j2⟩:=seqS_ok h1
       exact ⟨fun x hx=>i1 x (j1 x hx),i2,fun hg B0 w0 β a w s Q hQ=>wp_region_list (j2 (fun β x hx=>hg β x (i1 x hx)) s (post P Q ks) fun β' a' w' e s'=>i3 hg s' Q fun β2 a2 w2 e2 s2=>hQ β2 a2 w2 (fun k hk=>(e2 k hk).trans (e k hk)) s2)⟩
    · cases h
   | seq c d=>obtain ⟨i1,i2,i3⟩:=ih _ _ _ _ h hf; exact ⟨i1,i2,fun hg B0 w0 β a w s Q hQ=>wp_seq (i3 hg s Q hQ)⟩
   | cond x c d =>
    dsimp only at h
    split at h
    · obtain ⟨i1,i2,i3⟩:=ih _ _ _ _ h hf
      refine ⟨fun y hy=>i1 y (List.mem_cons_of_mem _ hy),i2,fun hg B0 w0 β a w s Q hQ=>?_⟩
      obtain ⟨e,_⟩:=Eqs.cons_ok (hg β _ (i1 _ (List.mem_cons_self ..)))
      injection e with e
      exact wp_cond_true (by rw [s.sl.eval]; exact e) (i3 hg (s.cs _) Q hQ)
    · obtain ⟨i1,i2,i3⟩:=ih _ _ _ _ h hf
      refine ⟨fun y hy=>i1 y (List.mem_cons_of_mem _ hy),i2,fun hg B0 w0 β a w s Q hQ=>?_⟩
      obtain ⟨e,_⟩:=Eqs.cons_ok (hg β _ (i1 _ (List.mem_cons_self ..)))
      injection e with e
      exact wp_cond_false (by rw [s.sl.eval]; exact e) (i3 hg (s.cs _) Q hQ)
    · cases h
   | block j c=>obtain ⟨i1,i2,i3⟩:=ih _ _ _ _ h hf; exact ⟨i1,i2,fun hg B0 w0 β a w s Q hQ=>wp_block (i3 hg s Q hQ)⟩
   | loop c =>
    dsimp only at h
    split at h
    · obtain rfl:=Option.some.inj h
      exact ⟨fun _ hx=>hx,hf,fun _ B0 w0 β a w s Q hQ=>rounds_loop (hQ β a w (fun _ _=>rfl) (s.ev _))⟩
    · obtain ⟨i1,i2,i3⟩:=ih _ _ _ _ h hf
      exact ⟨i1,i2,fun hg B0 w0 β a w s Q hQ=>rounds_loop (rounds_one (i3 hg s Q hQ))⟩
   | rangeFunc _ _ _ _=>cases h
   | exit j =>
    dsimp only at h
    split at h
    · rename_i r hr
      obtain ⟨i1,i2,i3⟩:=ih _ _ _ _ h hf
      exact ⟨i1,i2,fun hg B0 w0 β a w s Q hQ=>wp_exit (post_exit hr (i3 hg s Q hQ))⟩
    · cases h
   | scope c=>obtain ⟨i1,i2,i3⟩:=ih _ _ _ _ h hf; exact ⟨i1,i2,fun hg B0 w0 β a w s Q hQ=>wp_scope_straight (i3 hg s Q hQ)⟩
   | goto _=>cases h
   | ret =>
    obtain rfl:=Option.some.inj h
    exact ⟨fun _ hx=>hx,hf,fun _ B0 w0 β a w s Q hQ=>wp_ret (post_ret (hQ β a w (fun _ _=>rfl) s).2 ks)⟩
   | refuse _=>cases h
def loopsOf:Nat→Code→List Kf→List (Code × List Kf)
 | 0,_,_=>[]
 | m+1,c,ks=>match c with
  | .seq a b=>loopsOf m a (.sq b::ks)++loopsOf m b ks
  | .cond _ a b=>loopsOf m a ks++loopsOf m b ks
  | .block id c=>loopsOf m c (.bl id::ks)
  | .loop c=>(c,ks)::loopsOf m c (.lp c::ks)
  | .scope c=>loopsOf m c (.sc::ks)
  | _=>[]
def lpAt (fn:Func) (i:Nat):Code × List Kf:=match fn.body with
 | some c=>(loopsOf 200 c []).getD i (.skip,[])
 | none=>(.skip,[])
def Stop.pos {P:Program}:Stop P→Option (Code × List Kf)
 | .ended _=>none
 | .head c ks _=>some (c,ks)
def mkC (P:Program) (n u:Nat) (sl:List (Nat × SV)) (ob:List Ob) (ev:List (Ev P)):Cf P :=
 ⟨sl++(List.range n).map fun t=>(t,.one (.c (.b (.gh u t)))),fun k=>Nat.blt k ob.length,ob,ev,[]⟩
def tEq1 (β:Env) (σ:List Nat):Env:=fun j=>β (σ.getD j 0)
def opaqB (u t:Nat):SV→Bool
 | .one (.c (.b (.gh k i)))=>Nat.beq k u&&Nat.beq i t
 | _=>false
def layB:Ob→Bool
 | .box _ _=>true
 | .row _ _ _ _=>true
 | .ow _ _=>true
 | _=>false
def deadB:Ob→Bool
 | .dead=>true
 | _=>false
def kindB:Ob→Ob→Bool
 | .th _,.th _=>true
 | .al _ _,.th _=>true
 | .box _ _,.box _ _=>true
 | .row _ _ _ _,.row _ _ _ _=>true
 | .ow _ _,.ow _ _=>true
 | .ow _ _,.th _=>true
 | _,.dead=>true
 | _,_=>false
def wkB (m0 u:Nat) (obS obT:List Ob) (σ:List Nat):Bool :=
 Nat.beq σ.length obT.length&&Nat.ble m0 u&&Nat.blt u obT.length&&(List.range m0).all (fun i=>Nat.beq (σ.getD i 0) i) &&
 (List.range obT.length).all fun j=>match obT[j]? with
  | none=>false
  | some x=>(bif Nat.beq j u then deadB x else match obS[σ.getD j 0]? with
    | none=>false
    | some y=>kindB y x&&x.of (fun k=>Nat.blt k obT.length&&!Nat.beq k u)) &&
   (bif layB x then (!Nat.ble m0 j||Nat.ble m0 (σ.getD j 0))&&(List.range obT.length).all (fun i=>Nat.beq i j||(Nat.beq i u||((match obT[i]? with | some y=>deadB y | none=>false)||!Nat.beq (σ.getD i 0) (σ.getD j 0)))) else true)
def wkOb (β:Env) (σ:List Nat):Ob→Ob→Eqs
 | .box cs t,.box cs' t'=>[(.n t,.n t'),(.v (.agg (cs.map (Lf.den β)).toArray),.v (.agg (cs'.map (Lf.den (tEq1 β σ))).toArray))]
 | .row cs t n sz,.row cs' t' n' sz'=>[(.n t,.n t'),(.n n,.n n'),(.n sz,.n sz'),(.v (.agg (cs.map (Lf.den β)).toArray),.v (.agg (cs'.map (Lf.den (tEq1 β σ))).toArray))]
 | .ow D t,.ow D' t'=>[(.ob (.ow D t),.ob (.ow D' t'))]
 | .ow D _,.th t'=>[(.ob (.th D),.ob (.th t'))]
 | y,.th t=>[(.ob (y.plain (.th t)),.ob (.th t))]
 | _,_=>[]
def wkObs (β:Env) (obS:List Ob) (σ:List Nat):List Ob→Nat→Eqs
 | [],_=>[]
 | x::r,j=>(match obS[σ.getD j 0]? with | some y=>wkOb β σ y x | none=>(match x with | .dead=>[] | _=>Eqs.no))++wkObs β obS σ r (j+1)
def wkSl (β:Env) (u L:Nat) (σ:List Nat) (slS slT:List (Nat × SV)):Nat→Eqs
 | 0=>[]
 | t+1=>(bif opaqB u t (look slT t) then [] else bif (look slT t).of (fun k=>Nat.blt k L&&!Nat.beq k u) then [(.v ((look slS t).den β),.v ((look slT t).den (tEq1 β σ)))] else Eqs.no)++wkSl β u L σ slS slT t
def pieceE (P:Program) (m0 n:Nat) (s:Option (Stop P)) (u:Nat) (sl:List (Nat × SV)) (ob:List Ob) (σ:List Nat) (β:Env):Eqs :=
 match s with
 | some (.head _ _ f)=>(bif wkB m0 u f.ob ob σ&&Nat.beq f.ev.length 0&&sl.all (fun p=>Nat.blt p.1 n) then [] else Eqs.no)++(wkObs β f.ob σ ob 0++(wkSl β u ob.length σ f.sl (mkC P n u sl ob []).sl n++eqsOf β f.cs))
 | _=>Eqs.no
def lastE (P:Program) (fn:Func) (m0 n:Nat) (res:SV) (outs:List (Nat × Ob)) (s:Option (Stop P)) (β:Env):Eqs :=
 match s with
 | some (.ended f)=>fin1 P fn m0 n res outs f β
 | _=>Eqs.no
theorem Eqs.left {a b:Eqs} (h:Eqs.ok (a++b)):Eqs.ok a:=fun p hp=>h p (List.mem_append.2 (.inl hp))
theorem Eqs.right {a b:Eqs} (h:Eqs.ok (a++b)):Eqs.ok b:=fun p hp=>h p (List.mem_append.2 (.inr hp))
theorem bif_ok {b:Bool} (h:Eqs.ok (bif b then [] else Eqs.no)):b=true:=by
 cases b
 · exact (Eqs.no_ok h).elim
 · rfl
theorem look_none:∀ {l:List (Nat × SV)} {t:Nat},(∀ p∈l,p.1≠t)→look l t=undefS
 | [],_,_=>rfl
 | (k,x)::r,t,h=>by
  unfold look
  rw [show Nat.beq k t=false by rw [Bool.eq_false_iff,ne_eq,Nat.beq_eq]; exact h (k,x) (List.mem_cons_self ..),cond_false]
  exact look_none fun p hp=>h p (List.mem_cons_of_mem _ hp)
theorem wkObs_ok {β:Env} {obS:List Ob} {σ:List Nat}:∀ {obT:List Ob} {i:Nat},Eqs.ok (wkObs β obS σ obT i)→∀ (j:Nat) (x y:Ob),obT[j]?=some x→obS[σ.getD (i+j) 0]?=some y→Eqs.ok (wkOb β σ y x)
 | [],_,_,j,x,y,h,_=>by simp at h
 | z::r,i,h,j,x,y,hx,hy=>by
  unfold wkObs at h
  cases j with
  | zero =>
   simp only [List.getElem?_cons_zero] at hx
   obtain rfl:=Option.some.inj hx
   have:=Eqs.left h
   rw [Nat.add_zero] at hy
   rw [hy] at this
   exact this
  | succ j=>exact wkObs_ok (Eqs.right h) j x y (by simpa using hx) (by rw [show i+1+j=i+(j+1) by omega]; exact hy)
theorem opaqB_eq {u t:Nat} {x:SV} (h:opaqB u t x=true):x=.one (.c (.b (.gh u t))):=by
 unfold opaqB at h
 split at h
 · rw [Bool.and_eq_true,Nat.beq_eq,Nat.beq_eq] at h
   obtain ⟨rfl,rfl⟩:=h
   rfl
 · cases h
theorem wkSl_ok {β:Env} {u L:Nat} {σ:List Nat} {slS slT:List (Nat × SV)}:∀ {n:Nat},Eqs.ok (wkSl β u L σ slS slT n)→∀ t,t<n→look slT t=.one (.c (.b (.gh u t)))∨((look slT t).of (fun k=>Nat.blt k L&&!Nat.beq k u)=true∧(look slS t).den β=(look slT t).den (tEq1 β σ))
 | 0,_,t,h=>by omega
 | n+1,h,t,ht=>by
  unfold wkSl at h
  by_cases e:t=n
  · subst e
    have h:=Eqs.left h
    cases ho:opaqB u t (look slT t) with
    | true=>exact .inl (opaqB_eq ho)
    | false =>
     rw [ho,cond_false] at h
     cases hq:(look slT t).of (fun k=>Nat.blt k L&&!Nat.beq k u) with
     | true =>
      rw [hq,cond_true] at h
      obtain ⟨e,_⟩:=Eqs.cons_ok h
      injection e with e
      exact .inr ⟨rfl,e⟩
     | false=>rw [hq,cond_false] at h; exact (Eqs.no_ok h).elim
  · exact wkSl_ok (Eqs.right h) t (by omega)
theorem layB_iff {x:Ob}:layB x=true↔∃ p,x.layOf=some p:=by
 cases x<;>simp [layB,Ob.layOf]
theorem kind_lay {y x:Ob} (h:kindB y x=true) (hx:layB x=true):layB y=true:=by
 cases y<;>cases x<;>first | rfl | (cases h; done) | (cases hx; done)
theorem kind_dead {y x:Ob} (h:kindB y x=true) (hx:x≠.dead):y≠.dead:=by
 cases y<;>cases x<;>first | (intro e; cases e; done) | (cases h; done) | exact absurd rfl hx
theorem wk_hold {β β':Env} {w:World} {g:Pl} {σ:List Nat} {q:Nat→Bool} {y x:Ob} (hk:kindB y x=true) (he:Eqs.ok (wkOb β σ y x)) (hq:x.of q=true) (hβ:∀ k,q k=true→tEq1 β σ k=β' k) (h:y.holds β w g):x.holds β' w g:=by
 have thc:∀ (y:Ob) (t:Thing),Eqs.ok [(Tm.ob (y.plain (.th t)),Tm.ob (.th t))]→y.holds β w g→(Ob.th t).holds β' w g:=fun y t he h=>by
  obtain ⟨e,_⟩:=Eqs.cons_ok he
  injection e with e
  have:=Ob.plain_holds (x:=.th t) h
  rw [e] at this
  exact this
 cases x with
 | dead=>exact trivial
 | al r D=>cases y<;>(cases hk; done)
 | pl n=>cases y<;>(cases hk; done)
 | th t =>
  cases y<;>first | (cases hk; done) | exact thc _ t he h | skip
  obtain ⟨e,_⟩:=Eqs.cons_ok he
  injection e with e
  injection e with e
  subst e
  exact h.2
 | ow D' t' =>
  cases y<;>first | (cases hk; done) | skip
  obtain ⟨e,_⟩:=Eqs.cons_ok he
  injection e with e
  injection e with e e2
  subst e e2
  exact h
 | box cs' t' =>
  cases y<;>first | (cases hk; done) | skip
  rename_i cs t
  obtain ⟨e1,he⟩:=Eqs.cons_ok he
  obtain ⟨e2,_⟩:=Eqs.cons_ok he
  injection e1 with e1
  injection e2 with e2
  injection e2 with e2
  have e2:=congrArg Array.toList e2
  dsimp only at e2
  subst e1
  have hc:cs'.map (Lf.den (tEq1 β σ))=cs'.map (Lf.den β'):=all_congr hq (Lf.den_congr hβ)
  refine ⟨h.1,?_⟩
  rw [← hc,← e2]
  exact h.2
 | row cs' t' n' sz' =>
  cases y<;>first | (cases hk; done) | skip
  rename_i cs t n sz
  obtain ⟨e1,he⟩:=Eqs.cons_ok he
  obtain ⟨e3,he⟩:=Eqs.cons_ok he
  obtain ⟨e4,he⟩:=Eqs.cons_ok he
  obtain ⟨e2,_⟩:=Eqs.cons_ok he
  injection e1 with e1
  injection e3 with e3
  injection e4 with e4
  injection e2 with e2
  injection e2 with e2
  have e2:=congrArg Array.toList e2
  dsimp only at e2
  subst e1 e3 e4
  have hc:cs'.map (Lf.den (tEq1 β σ))=cs'.map (Lf.den β'):=all_congr hq (Lf.den_congr hβ)
  have hl:cs'.length=cs.length:=by
   have:=congrArg List.length e2
   rw [List.length_map,List.length_map] at this
   exact this.symm
  obtain ⟨h0,cur,h1,h2,h3,h4,h5,h6⟩:=h
  refine ⟨h0,cur,h1,by rw [hl]; exact h2,h3,h4,h5,?_⟩
  rw [← hc,← e2]
  exact h6
theorem wk_sync {P:Program} {m0 n u:Nat} {B0:Bd} {w0:World} {f:Cf P} {sl:List (Nat × SV)} {ob:List Ob} {ev:List (Ev P)} {σ:List Nat} {β:Env} {a:Act} {w:World}
  (hB:wkB m0 u f.ob ob σ=true) (hn:sl.all (fun p=>Nat.blt p.1 n)=true) (hO:Eqs.ok (wkObs β f.ob σ ob 0)) (hS:Eqs.ok (wkSl β u ob.length σ f.sl (mkC P n u sl ob ev).sl n)) (h:Sync P m0 n B0 w0 f β a w) (hBk:B0.k≤m0:=by exact Nat.le_refl _) :
  ∃ β':Env,(∀ k,k<m0→β' k=β k)∧Sync P m0 n B0 w0 (mkC P n u sl ob ev) β' a w:=by
 unfold wkB at hB
 rw [Bool.and_eq_true,Bool.and_eq_true,Bool.and_eq_true,Bool.and_eq_true,Nat.beq_eq,Nat.ble_eq,Nat.blt_eq] at hB
 obtain ⟨⟨⟨⟨hlen,hmu⟩,hul⟩,hid⟩,hall⟩:=hB
 have hσ:∀ i,i<m0→σ.getD i 0=i:=fun i hi=>Nat.eq_of_beq_eq_true (List.all_eq_true.1 hid i (List.mem_range.2 hi))
 obtain ⟨β',hβ⟩:∃ β':Env,β'=fun j=>if j=u then ⟨0,fun _=>none,fun _=>0,fun _=>False,fun t=>a.tmps.getD t undef⟩ else β (σ.getD j 0):=⟨_,rfl⟩
 have hβu:β' u=⟨0,fun _=>none,fun _=>0,fun _=>False,fun t=>a.tmps.getD t undef⟩:=by rw [hβ]; exact if_pos rfl
 have hβo:∀ j,j≠u→β' j=β (σ.getD j 0):=fun j hj=>by rw [hβ]; exact if_neg hj
 have hβm:∀ k,k<m0→β' k=β k:=fun k hk=>by rw [hβo k (by omega),hσ k hk]
 have hq:∀ k,(Nat.blt k ob.length&&!Nat.beq k u)=true→tEq1 β σ k=β' k:=fun k hk=>by
  rw [Bool.and_eq_true,Bool.not_eq_true',Nat.blt_eq] at hk
  rw [hβo k (fun e=>by rw [e,Nat.beq_refl] at hk; cases hk.2)]
  rfl
 have hmono:∀ k,(Nat.blt k ob.length&&!Nat.beq k u)=true→Nat.blt k ob.length=true:=fun k hk=>by rw [Bool.and_eq_true] at hk; exact hk.1
 have hsrc:∀ (j:Nat) (x:Ob),ob[j]?=some x→(j=u→x=.dead)∧(j≠u→∃ y,f.ob[σ.getD j 0]?=some y∧kindB y x=true∧x.of (fun k=>Nat.blt k ob.length&&!Nat.beq k u)=true)∧(layB x=true→(m0≤j→m0≤σ.getD j 0)∧∀ (i:Nat) (y:Ob),ob[i]?=some y→y≠.dead→i≠j→i≠u→σ.getD i 0≠σ.getD j 0):=by
  intro j x hx
  have hj:j<ob.length:=(List.getElem?_eq_some_iff.1 hx).1
  have hc:=List.all_eq_true.1 hall j (List.mem_range.2 hj)
  rw [hx] at hc
  dsimp only at hc
  rw [Bool.and_eq_true] at hc
  obtain ⟨hc1,hc2⟩:=hc
  refine ⟨fun e=>?_,fun e=>?_,fun hl=>?_⟩
  · rw [e,Nat.beq_refl,cond_true] at hc1
    cases x<;>first | rfl | (cases hc1; done)
  · rw [show Nat.beq j u=false by rw [Bool.eq_false_iff,ne_eq,Nat.beq_eq]; exact e,cond_false] at hc1
    split at hc1
    · cases hc1
    · rename_i y hy
      rw [Bool.and_eq_true] at hc1
      exact ⟨y,hy,hc1.1,hc1.2⟩
  · rw [hl,cond_true,Bool.and_eq_true,Bool.or_eq_true] at hc2
    refine ⟨fun hm=>?_,fun i y hy hd hij hiu e=>?_⟩
    · rcases hc2.1 with h1 | h1
      · rw [Bool.not_eq_true',Bool.eq_false_iff,ne_eq,Nat.ble_eq] at h1
        exact absurd hm h1
      · exact Nat.le_of_ble_eq_true h1
    · have hi:i<ob.length:=(List.getElem?_eq_some_iff.1 hy).1
      have h1:=List.all_eq_true.1 hc2.2 i (List.mem_range.2 hi)
      rw [hy,Bool.or_eq_true,Bool.or_eq_true,Bool.or_eq_true,Nat.beq_eq,Nat.beq_eq,e,Nat.beq_refl] at h1
      rcases h1 with h1 | h1 | h1 | h1
      · exact hij h1
      · exact hiu h1
      · refine hd ?_
        cases y<;>first | rfl | (cases h1; done)
      · cases h1
 have hex:∀ {k:Nat} {y:Ob},f.ob[k]?=some y→f.q k=true:=fun {k y} hy=>(h.q k).2 (List.getElem?_eq_some_iff.1 hy).1
 have hob:∀ {k:Nat},Nat.blt k ob.length=true→∃ x,ob[k]?=some x:=fun {k} hk=>⟨_,List.getElem?_eq_getElem (by rw [Nat.blt_eq] at hk; exact hk)⟩
 have hfree:∀ {k:Nat} {x:Ob},ob[k]?=some x→Free (fun k=>Nat.blt k ob.length) (fun k=>ob[k]?) k→layB x=true∧k≠u:=fun {k x} hx hf=>by
  rcases hf with ⟨x',e,p,hp⟩ | ⟨⟨m,e⟩,_⟩
  · dsimp only at e
    rw [hx] at e
    obtain rfl:=Option.some.inj e
    refine ⟨layB_iff.2 ⟨p,hp⟩,fun e=>?_⟩
    rw [(hsrc k x hx).1 e] at hp
    cases hp
  · dsimp only at e
    rw [hx] at e
    obtain rfl:=Option.some.inj e
    exfalso
    by_cases ek:k=u
    · have:=(hsrc k _ hx).1 ek
      cases this
    · obtain ⟨y,_,hk,_⟩:=(hsrc k _ hx).2.1 ek
      cases y<;>(cases hk; done)
 have hlayS:∀ {k:Nat} {x:Ob},ob[k]?=some x→layB x=true→k≠u→f.q (σ.getD k 0)=true∧Free f.q (fun k=>f.ob[k]?) (σ.getD k 0):=fun {k x} hx hl hku=>by
  obtain ⟨y,hy,hk,_⟩:=(hsrc k x hx).2.1 hku
  obtain ⟨p,hp⟩:=layB_iff.1 (kind_lay hk hl)
  exact ⟨hex hy,Free.lay hy hp⟩
 refine ⟨β',hβm,⟨⟨h.good.bel,h.good.le,?_,?_,?_,?_,?_,?_,?_,?_,?_⟩,fun k=>by dsimp only [mkC]; rw [Nat.blt_eq],⟨h.sl.1,fun t=>?_⟩,fun t=>?_,?_,h.defers,?_⟩⟩
 ·
  intro k o hk hko
  dsimp only [mkC] at hk hko ⊢
  by_cases e:k=u
  · rw [(hsrc k o hko).1 e]
    exact ⟨trivial,rfl⟩
  · obtain ⟨y,hy,hkd,hof⟩:=(hsrc k o hko).2.1 e
    have hh:=(h.good.hold _ y (hex hy) hy).1
    refine ⟨?_,Ob.of_mono hmono _ hof⟩
    rw [hβo k e]
    refine wk_hold hkd (wkObs_ok hO k o y hko ?_) hof hq hh
    rw [Nat.zero_add]
    exact hy
 ·
  intro k hk c hc
  dsimp only [mkC] at hk
  by_cases e:k=u
  · rw [e,hβu] at hc; exact hc.elim
  · rw [hβo k e] at hc
    obtain ⟨x,hx⟩:=hob hk
    obtain ⟨y,hy,_⟩:=(hsrc k x hx).2.1 e
    exact h.good.lt _ (hex hy) c hc
 ·
  intro k j hk hj hne hm hf hd
  dsimp only [mkC] at hk hj hf hd
  obtain ⟨x,hx⟩:=hob hk
  obtain ⟨z,hz⟩:=hob hj
  obtain ⟨hl,hku⟩:=hfree hx hf
  by_cases e:j=u
  · rw [e,hβu]; exact fun hc=>hc.elim
  · obtain ⟨hs1,hs2⟩:=hlayS hx hl hku
    obtain ⟨hm2,hdis⟩:=(hsrc k x hx).2.2 hl
    obtain ⟨y,hy,hkd,_⟩:=(hsrc j z hz).2.1 e
    have hzd:z≠.dead:=fun e=>hd (by rw [hz,e])
    rw [hβo k hku,hβo j e]
    exact h.good.ne _ _ hs1 (hex hy) (hdis j z hz hzd hne e) (hm2 hm) hs2 (fun e=>kind_dead hkd hzd (Option.some.inj (hy.symm.trans e)))
 ·
  intro k x hk hm hx hmi
  dsimp only [mkC] at hk hx
  obtain ⟨hl,hku⟩:layB x=true∧k≠u:=by
   refine ⟨?_,fun e=>by rw [(hsrc k x hx).1 e] at hmi; cases hmi⟩
   cases x<;>first | (cases hmi; done) | exact layB_iff.2 ⟨_,rfl⟩ | skip
   exfalso
   by_cases ek:k=u
   · have:=(hsrc k _ hx).1 ek
     cases this
   · obtain ⟨y,_,hk,_⟩:=(hsrc k _ hx).2.1 ek
     cases y<;>(cases hk; done)
  obtain ⟨hs1,hs2⟩:=hlayS hx hl hku
  rw [hβo k hku]
  exact h.good.low _ hs1 (((hsrc k x hx).2.2 hl).1 hm) hs2
 ·
  intro k hk hm c hc
  dsimp only [mkC] at hk
  by_cases e:k=u
  · rw [e,hβu] at hc; exact hc.elim
  · rw [hβo k e] at hc
    obtain ⟨x,hx⟩:=hob hk
    obtain ⟨y,hy,_⟩:=(hsrc k x hx).2.1 e
    by_cases hs:m0≤σ.getD k 0
    · exact (h.good.fr _ (hex hy) hs c hc).imp id fun ⟨i,i1,i2⟩=>⟨i,i1,by rw [hβm i i1]; exact i2⟩
    · exact .inr ⟨σ.getD k 0,by omega,by rw [hβm _ (by omega)]; exact hc⟩
 · intro i hi
   dsimp only [mkC]
   rw [Nat.blt_eq]
   omega
 · intro k r D hk ho
   dsimp only [mkC] at ho
   exfalso
   by_cases e:k=u
   · have:=(hsrc k _ ho).1 e
     cases this
   · obtain ⟨y,_,hkd,_⟩:=(hsrc k _ ho).2.1 e
     cases y<;>(cases hkd; done)
 · intro k r D hk ho
   dsimp only [mkC] at ho
   exfalso
   by_cases e:k=u
   · have:=(hsrc k _ ho).1 e
     cases this
   · obtain ⟨y,_,hkd,_⟩:=(hsrc k _ ho).2.1 e
     cases y<;>(cases hkd; done)
 · intro k i hk hi hlt hm hd hp
   dsimp only [mkC] at hp
   obtain ⟨M,hp⟩:=hp
   exfalso
   by_cases e:i=u
   · have:=(hsrc i _ hp).1 e
     cases this
   · obtain ⟨y,_,hkd,_⟩:=(hsrc i _ hp).2.1 e
     cases y<;>(cases hkd; done)
 ·
  by_cases ht:t<n
  · rcases wkSl_ok hS t ht with e | ⟨e1,e2⟩
    · rw [e]
      show _=(β' u).u t
      rw [hβu]
    · rw [h.sl.2 t,e2]
      exact SV.den_congr hq _ e1
  · have hl:look (mkC P n u sl ob ev).sl t=undefS:=look_none fun p hp=>by
     rcases List.mem_append.1 hp with hp | hp
     · have:=List.all_eq_true.1 hn p hp
       rw [Nat.blt_eq] at this
       omega
     · obtain ⟨t',ht',rfl⟩:=List.mem_map.1 hp
       have:=List.mem_range.1 ht'
       dsimp only
       omega
    rw [hl]
    show a.tmps.getD t undef=undef
    rw [Array.getD_eq_getD_getElem?,Array.getElem?_eq_none (by rw [h.sl.1]; omega)]
    rfl
 · by_cases ht:t<n
   · rcases wkSl_ok hS t ht with e | ⟨e1,e2⟩
     · rw [e]
       show Nat.blt u ob.length=true
       rw [Nat.blt_eq]; exact hul
     · exact SV.of_mono hmono _ e1
   · have hl:look (mkC P n u sl ob ev).sl t=undefS:=look_none fun p hp=>by
      rcases List.mem_append.1 hp with hp | hp
      · have:=List.all_eq_true.1 hn p hp
        rw [Nat.blt_eq] at this
        omega
      · obtain ⟨t',ht',rfl⟩:=List.mem_map.1 hp
        have:=List.mem_range.1 ht'
        dsimp only
        omega
     rw [hl]; rfl
 · show m0≤ob.length∧B0.k≤ob.length
   omega
 · intro k j i D D' h1 h2
   exfalso
   by_cases e:k=u
   · have:=(hsrc k _ h1).1 e
     cases this
   · obtain ⟨y,_,hkd,_⟩:=(hsrc k _ h1).2.1 e
     cases y<;>(cases hkd; done)
def HdOk (P:Program) (m0 n:Nat) (N:Nat) (w0:World) (β0:Env) (Q:Exit→Act→World→Prop) (C:Cf P) (p:Code × List Kf):Prop :=
 ∀ (β:Env) (a:Act) (w:World),(∀ k,k<m0→β k=β0 k)→Sync P m0 n (bd0 N m0) w0 C β a w→Rounds P p.1 (post P Q p.2) a w
theorem pieceE_parts {P:Program} {m0 n:Nat} {c:Code} {ks:List Kf} {f:Cf P} {u:Nat} {sl:List (Nat × SV)} {ob:List Ob} {σ:List Nat} (ev:List (Ev P)) (he:∀ β,Eqs.ok (pieceE P m0 n (some (.head c ks f)) u sl ob σ β)) :
  f.good∧∀ {N:Nat} {w0:World} {β:Env} {a:Act} {w:World},Sync P m0 n (bd0 N m0) w0 f β a w→∃ β':Env,(∀ k,k<m0→β' k=β k)∧Sync P m0 n (bd0 N m0) w0 (mkC P n u sl ob ev) β' a w:=by
 refine ⟨fun β x hx=>eqsOf_ok (Eqs.right (Eqs.right (Eqs.right (he β)))) x hx,fun {N w0 β a w} hs=>?_⟩
 have h:=he β
 have h1:=bif_ok (Eqs.left h)
 rw [Bool.and_eq_true,Bool.and_eq_true] at h1
 exact wk_sync h1.1.1 h1.2 (Eqs.left (Eqs.right h)) (Eqs.left (Eqs.right (Eqs.right h))) hs
theorem piece_ok {P:Program} {m0 n:Nat} {N:Nat} {w0:World} {β0:Env} {Q:Exit→Act→World→Prop} {Ns:List (Nat × Nat)} {m:Nat} {C:Cf P} {p p':Code × List Kf} {u:Nat} {sl:List (Nat × SV)} {ob:List Ob} (ev:List (Ev P)) (σ:List Nat) (hm:P.follows .mixedOrders=true)
  (hp:(runP P m0 n Ns m (some p.1) (.lp p.1::p.2) C).bind Stop.pos=some p') (he:∀ β,Eqs.ok (pieceE P m0 n (runP P m0 n Ns m (some p.1) (.lp p.1::p.2) C) u sl ob σ β))
  (hH:HdOk P m0 n N w0 β0 Q (mkC P n u sl ob ev) p'):HdOk P m0 n N w0 β0 Q C p:=by
 intro β a w hβ hs
 cases hr:runP P m0 n Ns m (some p.1) (.lp p.1::p.2) C with
 | none=>rw [hr] at hp; cases hp
 | some s =>
  rw [hr] at hp he
  cases s with
  | ended f=>cases hp
  | head c ks f =>
   obtain rfl:(c,ks)=p':=Option.some.inj hp
   obtain ⟨hg,hw⟩:=pieceE_parts ev he
   obtain ⟨_,_,r3⟩:=runP_ok hm _ _ _ _ _ hr ⟨hs.q,hs.uq⟩
   refine rounds_one (r3 hg hs Q fun β' a' w' e s'=>?_)
   obtain ⟨β'',e2,s2⟩:=hw s'
   exact hH β'' a' w' (fun k hk=>(e2 k hk).trans ((e k hk).trans (hβ k hk))) s2
def Said (P:Program) (fn:Func) (m0:Nat) (res:SV) (outs:List (Nat × Ob)) (β:Env) (w:World) (e:Ending) (w':World):Prop :=
 ∃ (β':Env) (q:Nat→Bool) (obj:Nat→Option Ob),(∀ k,k<m0→β' k=β k)∧e=.returned (res.den β')∧res.of q=true∧(∀ p∈outs,∀ c,(β' p.1).F c→w.heap.size≤c∨∃ i,i<m0∧(β i).F c)∧holdsAll β' w' outs∧Fin w w'
theorem fin1_parts {P:Program} {fn:Func} {m0 n:Nat} {res:SV} {outs:List (Nat × Ob)} {f:Cf P} (h:∀ β,Eqs.ok (fin1 P fn m0 n res outs f β)):f.good∧∀ {β0:Env} {w:World} {β':Env} {a':Act} {w':World},(∀ k,k<m0→β' k=β0 k)→Sync P m0 n (bd0 w.heap.size m0) w f β' a' w' →
  bodyPost P fn (Said P fn m0 res outs β0 w) .normal a' w'∧bodyPost P fn (Said P fn m0 res outs β0 w) .ret a' w':=by
 have fin:∃ r:R1 Value,run1 P m0 false (results fn (tmpsS idE f.sl n)) f.q f.ob []=some r∧res.of f.q=true∧r.ob.length=f.ob.length ∧
   ∀ β,Eqs.ok (chk P β (results fn (tmpsS β f.sl n)) r.tr.reverse (fun u=>[(.v u,.v (res.den β))])++(needEqs f.q f.ob outs++eqsOf β f.cs)):=by
  cases hx:run1 P m0 false (results fn (tmpsS idE f.sl n)) f.q f.ob [] with
  | none=>have:=h idE; unfold fin1 at this; rw [hx] at this; exact (Eqs.no_ok this).elim
  | some r =>
   obtain ⟨ra,rq,rob,rtr⟩:=r
   cases hc:(res.of f.q&&Nat.beq rob.length f.ob.length&&Nat.beq f.ev.length 0) with
   | false=>have:=h idE; unfold fin1 at this; rw [hx] at this; dsimp only at this; rw [hc] at this; exact (Eqs.no_ok this).elim
   | true =>
    have h3:=hc
    simp only [Bool.and_eq_true,Nat.beq_eq] at hc
    refine ⟨_,rfl,hc.1.1,hc.1.2,fun β=>?_⟩
    have:=h β
    unfold fin1 at this
    rw [hx] at this
    dsimp only at this
    rw [h3] at this
    exact this
 obtain ⟨r,f1,f2,f3,f4⟩:=fin
 refine ⟨fun β x hx=>eqsOf_ok (fun p hp=>f4 β p (List.mem_append.2 (.inr (List.mem_append.2 (.inr hp))))) x hx,?_⟩
 intro β0 w β' a' w' e s
 obtain ⟨h5,_,_,tr,h8,h9⟩:=run1_ok _ _ _ _ _ f1 (fun k hk=>(s.q k).1 hk)
 obtain ⟨k1,obj',k2,k3,k4⟩:=h9 _ _ _ _ _ _ s.good (fun k hk=>⟨hk,rfl⟩) (fun k a b=>by omega) s.m0.1
 have h6:=f4 β'
 rw [h8,List.append_nil,List.reverse_reverse] at h6
 have h7:Eqs.ok (chk P β' (results fn (tmpsS β' f.sl n)) tr (fun u=>[(.v u,.v (res.den β'))])):=fun p hp=>h6 p (List.mem_append.2 (.inl hp))
 obtain ⟨v,hv,hv2⟩:=chk_run _ _ _ h7 k1
 obtain ⟨e1,_⟩:=Eqs.cons_ok hv2
 injection e1 with e1
 subst e1
 rw [f3,rangeQ_self] at k4
 have hend:trEnd β' w' tr=w':=by
  obtain ⟨tr2,x1,x2⟩:=run1_still _ _ _ _ _ f1 (fun k hk=>(s.q k).1 hk) f3
  rw [h8,List.append_nil,List.append_nil] at x1
  rw [List.reverse_inj.1 x1]
  exact x2 β' w'
 rw [hend] at hv k4
 rw [← tmps_eq s.sl] at hv
 have hout:∀ p:Nat × Ob,f.q p.1=true→∀ c,(β' p.1).F c→w.heap.size≤c∨∃ i,i<m0∧(β0 i).F c:=fun p hp c hc=>by
  by_cases h0:m0≤p.1
  · exact (s.good.fr p.1 hp h0 c hc).imp (fun a=>a.elim (fun a=>a.elim id False.elim) False.elim) fun ⟨i,i1,i2⟩=>⟨i,i1,by rw [← e i i1]; exact i2⟩
  · exact .inr ⟨p.1,by omega,by rw [← e p.1 (by omega)]; exact hc⟩
 have hneed:Eqs.ok (needEqs f.q f.ob outs):=fun p hp=>f4 β' p (List.mem_append.2 (.inr (List.mem_append.2 (.inl hp))))
 have hres:bodyPost P fn (Said P fn m0 res outs β0 w) .normal a' w':=⟨s.defers,_,hv,β',f.q,obj',e,rfl,f2,fun p hp c hc=>hout p (needs_q _ hneed p hp) c hc,needs_hold s.good (fun k hk=>⟨hk,rfl⟩) _ hneed,⟨k4.bel.below⟩⟩
 exact ⟨hres,hres⟩
theorem last_ok {P:Program} {fn:Func} {m0 n:Nat} {w:World} {β0:Env} {res:SV} {outs:List (Nat × Ob)} {Ns:List (Nat × Nat)} {m:Nat} {C:Cf P} {p:Code × List Kf} (hm:P.follows .mixedOrders=true)
  (he:∀ β,Eqs.ok (lastE P fn m0 n res outs (runP P m0 n Ns m (some p.1) (.lp p.1::p.2) C) β)):HdOk P m0 n w.heap.size w β0 (bodyPost P fn (Said P fn m0 res outs β0 w)) C p:=by
 intro β a w1 hβ hs
 cases hr:runP P m0 n Ns m (some p.1) (.lp p.1::p.2) C with
 | none=>have:=he idE; rw [hr] at this; exact (Eqs.no_ok this).elim
 | some s =>
  rw [hr] at he
  cases s with
  | head c ks f=>exact (Eqs.no_ok (he idE)).elim
  | ended f =>
   obtain ⟨hg,hw⟩:=fin1_parts he
   obtain ⟨_,_,r3⟩:=runP_ok hm _ _ _ _ _ hr ⟨hs.q,hs.uq⟩
   exact rounds_one (r3 hg hs _ fun β' a' w' e s'=>hw (fun k hk=>(e k hk).trans (hβ k hk)) s')
def startP (P:Program) (fn:Func) (args:List SV) (obs:List Ob) (evs:List (Ev P)) (Ns:List (Nat × Nat)) (m:Nat):Option (Stop P):=match fn.body with
 | some c=>runP P obs.length (sizeS fn args) Ns m (some c) [] ⟨startS args 0,fun k=>Nat.blt k obs.length,obs,evs,[]⟩
 | none=>none
theorem sx_cut {P:Program} {f:FuncId} {fn:Func} (args:List SV) (obs:List Ob) (evs ev:List (Ev P)) (Ns:List (Nat × Nat)) (m:Nat) (res:SV) (outs:List (Nat × Ob)) (hf:P.funcs[f]?=some fn) (hm:P.follows .mixedOrders=true) {u:Nat} {sl:List (Nat × SV)} {ob:List Ob} {σ:List Nat} {p':Code × List Kf}
  (hp:(startP P fn args obs evs Ns m).bind Stop.pos=some p') (he:∀ β,Eqs.ok (pieceE P obs.length (sizeS fn args) (startP P fn args obs evs Ns m) u sl ob σ β))
  (hargs:args.all (SV.of fun k=>Nat.blt k obs.length)=true) (hobs:obs.all (fun x=>x.of (fun k=>Nat.blt k obs.length)&&x.own)=true) (β:Env) (w:World) (hh:∀ (k:Nat) (o:Ob),obs[k]?=some o→o.holds β w (β k))
  (hH:HdOk P obs.length (sizeS fn args) w.heap.size w β (bodyPost P fn (Said P fn obs.length res outs β w)) (mkC P (sizeS fn args) u sl ob ev) p') :
  Calls P f (args.map (SV.den β)).toArray w (Said P fn obs.length res outs β w):=by
 have hnal:∀ (k r:Nat) (D:Thing),obs[k]?≠some (.al r D):=fun k r D ho=>by
  have:=List.all_eq_true.1 hobs _ (List.mem_of_getElem? ho)
  simp [Ob.own] at this
 have huq:UniqAl obs:=fun k j i D _ h1 _=>absurd h1 (hnal k i D)
 have hlt:∀ k,k<obs.length→∀ c,(β k).F c→c<w.heap.size:=fun k hk c hc=>by
  have h:=hh k _ (List.getElem?_eq_getElem hk)
  cases hx:obs[k] with
  | box cs t=>rw [hx] at h; rw [(h.1.1 c).1 hc]; exact heap_lt h.2
  | th D=>rw [hx] at h; exact D.st.lt _ _ h c hc
  | al r D=>rw [hx] at h; exact D.st.lt _ _ h c hc
  | pl n=>rw [hx] at h; rw [(h.1.1 c).1 hc]; exact h.2.lt
  | row cs t n sz=>rw [hx] at h; rw [(h.1.1 c).1 hc]; exact heap_lt h.2.choose_spec.1
  | ow D t=>rw [hx] at h; exact D.st.lt _ _ h.2 c hc
  | dead =>
   have:=List.all_eq_true.1 hobs _ (List.mem_of_getElem? (List.getElem?_eq_getElem hk))
   rw [hx] at this
   simp [Ob.own] at this
 cases hb:fn.body with
 | none=>unfold startP at hp; rw [hb] at hp; cases hp
 | some c =>
  have hst:startP P fn args obs evs Ns m=runP P obs.length (sizeS fn args) Ns m (some c) [] ⟨startS args 0,fun k=>Nat.blt k obs.length,obs,evs,[]⟩:=by unfold startP; rw [hb]
  rw [hst] at hp he
  cases hr:runP P obs.length (sizeS fn args) Ns m (some c) [] ⟨startS args 0,fun k=>Nat.blt k obs.length,obs,evs,[]⟩ with
  | none=>rw [hr] at hp; cases hp
  | some s =>
   rw [hr] at hp he
   cases s with
   | ended f=>cases hp
   | head c1 ks1 f1 =>
    obtain rfl:(c1,ks1)=p':=Option.some.inj hp
    obtain ⟨hg,hw⟩:=pieceE_parts ev he
    obtain ⟨_,_,r3⟩:=runP_ok hm _ _ _ _ _ hr ⟨fun k=>by dsimp only; rw [Nat.blt_eq],huq⟩
    refine calls_of_wp hf hb (r3 hg (B0:=bd0 w.heap.size obs.length) (w0:=w) (β:=β) ⟨⟨Keep.refl _ _,Nat.le_refl _,fun k o hk ho=>⟨hh k o ho,(Bool.and_eq_true _ _▸List.all_eq_true.1 hobs o (List.mem_of_getElem? ho)).1⟩,fun k hk=>hlt k (by simpa [Nat.blt_eq] using hk),fun k j hk _ _ hm=>?_,fun k _ hk hm=>?_,fun k hk hm=>?_,fun i hi=>by rw [Nat.blt_eq]; exact hi,fun k r D _ ho=>?_,fun k r D _ ho=>absurd ho (hnal k r D),fun k i _ hi _ hm=>by rw [Nat.blt_eq] at hi; omega⟩,fun k=>by dsimp only; rw [Nat.blt_eq],⟨?_,fun t=>?_⟩,fun t=>?_,⟨Nat.le_refl _,Nat.le_refl _⟩,rfl,huq⟩ _ fun β' a' w' e s=>?_)
    · rw [Nat.blt_eq] at hk; omega
    · rw [Nat.blt_eq] at hk; omega
    · rw [Nat.blt_eq] at hk; omega
    · exact absurd ho (hnal k r D)
    · simp [sizeS]
    · rw [look_start,if_pos (Nat.zero_le _),Nat.sub_zero]
      simp only [Array.getD_eq_getD_getElem?,Array.getElem?_append,List.size_toArray,List.length_map,List.getElem?_toArray,List.getElem?_map]
      split
      · rename_i hlt2
        rw [List.getElem?_eq_getElem hlt2]
        rfl
      · rename_i hge
        rw [List.getElem?_eq_none (by omega)]
        simp [Array.getElem?_replicate]
        split<;>rfl
    · dsimp only
      rw [look_start,if_pos (Nat.zero_le _),Nat.sub_zero]
      cases hx:args[t]? with
      | none=>rfl
      | some x=>exact List.all_eq_true.1 hargs x (List.mem_of_getElem? hx)
    · obtain ⟨β'',e2,s2⟩:=hw s
      exact hH β'' a' w' (fun k hk=>(e2 k hk).trans (e k hk)) s2
end Go.Proofs.YtmfedaakeeiolaaGreat.Y
end
section
namespace Go.Proofs.YtmfedaakeeiolaaGreat.Y
open Go Go.RowKit
set_option maxRecDepth 100000
def yvT (d1 d2:Nat) (s:ByteArray):(k:T3)→k.at s→List (Ev Tryz.prog)
 | .lo,h=>[.eqv d1 (.bool (decide ((120:Int)<(s.size:Int)))) (.bool false) (bool_lit h)]
 | .mid,h=>[.eqv d1 (.bool (decide ((120:Int)<(s.size:Int)))) (.bool true) (bool_lit h.1),.eqv d2 (.bool (decide ((s.size:Int)≤1024))) (.bool true) (bool_lit h.2)]
 | .hi,h=>[.eqv d1 (.bool (decide ((120:Int)<(s.size:Int)))) (.bool true) (bool_lit h.1),.eqv d2 (.bool (decide ((s.size:Int)≤1024))) (.bool false) (bool_lit h.2)]
def yvT2 (x:R4) (a b:T3) (ha:a.at x.s) (hb:b.at x.t):List (Ev Tryz.prog):=yvT 32 38 x.s a ha++(bif a.yes then [] else yvT 45 51 x.t b hb)
abbrev lgA:List SV:=[.one (.c (.b (.s 0 0 4 4)))]
noncomputable abbrev lgN:Nat:=sizeS Tryz.f130 lgA
abbrev lI (i:Int):SV:=.one (.c (.b (.v (.int .i64 i))))
abbrev lB (b:Bool):SV:=.one (.c (.b (.v (.bool b))))
section
variable (x0 y0 x1 y1 x2 y2 x3 y3:R4) (T:TypeId)
def lgCells:List Lf:=rL x0++rL y0++rL x1++rL y1++rL x2++rL y2++rL x3++rL y3
noncomputable def cOut (i:Int) (ev:List (Ev Tryz.prog)):Cf Tryz.prog:=mkC Tryz.prog lgN 1 [(0,.one (.c (.b (.s 0 0 4 4)))),(3,lI i)] [.box (lgCells x0 y0 x1 y1 x2 y2 x3 y3) T,.dead] ev
noncomputable def cIn (i j:Int) (x y:R4) (ev:List (Ev Tryz.prog)):Cf Tryz.prog:=mkC Tryz.prog lgN 1 [(0,.one (.c (.b (.s 0 0 4 4)))),(3,lI i),(22,.one (.c (.b (.s 2 0 2 2)))),(23,lI 2),(24,lI j)] [.box (lgCells x0 y0 x1 y1 x2 y2 x3 y3) T,.dead,.box (rL x++rL y) 25] ev
variable (β0:Env) (w:World) (r:Bool)
abbrev lgH (C:Cf Tryz.prog) (i:Nat):Prop:=HdOk Tryz.prog 1 lgN w.heap.size w β0 (bodyPost Tryz.prog Tryz.f130 (Said Tryz.prog Tryz.f130 1 (lB r) [] β0 w)) C (lpAt Tryz.f130 i)
theorem lg_end:lgH β0 w false (cOut x0 y0 x1 y1 x2 y2 x3 y3 T 4 []) 0:=last_ok (Ns:=[(4,13)]) (m:=200) hmA (fun β=>ok_of_maps (by kernel_rfl))
theorem lg_out0 (h:lgH β0 w r (cIn x0 y0 x1 y1 x2 y2 x3 y3 T 0 0 x0 y0 []) 1):lgH β0 w r (cOut x0 y0 x1 y1 x2 y2 x3 y3 T 0 [.cut]) 0:=piece_ok (Ns:=[(4,13)]) (m:=200) [] [0,0,2] hmA (by kernel_rfl) (fun β=>ok_of_maps (by kernel_rfl)) h
theorem lg_back0 (h:lgH β0 w r (cOut x0 y0 x1 y1 x2 y2 x3 y3 T 1 []) 0):lgH β0 w r (cIn x0 y0 x1 y1 x2 y2 x3 y3 T 0 2 x0 y0 [.cut]) 1:=piece_ok (Ns:=[(4,13)]) (m:=200) [] [0,0] hmA (by kernel_rfl) (fun β=>ok_of_maps (by kernel_rfl)) h
theorem lg_no00 {a b:T3} (ha:a.at x0.s) (hb:b.at x0.t) (h:(a.yes||b.yes)=false) (k:lgH β0 w r (cIn x0 y0 x1 y1 x2 y2 x3 y3 T 0 1 x0 y0 []) 1):lgH β0 w r (cIn x0 y0 x1 y1 x2 y2 x3 y3 T 0 0 x0 y0 (yvT2 x0 a b ha hb++[.cut])) 1:=by
 cases a
 · cases b
   · exact piece_ok (Ns:=[(4,13)]) (m:=200) [] [0,0,2] hmA (by kernel_rfl) (fun β=>ok_of_maps (by kernel_rfl)) k
   · cases h
   · exact piece_ok (Ns:=[(4,13)]) (m:=200) [] [0,0,2] hmA (by kernel_rfl) (fun β=>ok_of_maps (by kernel_rfl)) k
 · cases h
 · cases b
   · exact piece_ok (Ns:=[(4,13)]) (m:=200) [] [0,0,2] hmA (by kernel_rfl) (fun β=>ok_of_maps (by kernel_rfl)) k
   · cases h
   · exact piece_ok (Ns:=[(4,13)]) (m:=200) [] [0,0,2] hmA (by kernel_rfl) (fun β=>ok_of_maps (by kernel_rfl)) k
theorem lg_yes00 {a b:T3} (ha:a.at x0.s) (hb:b.at x0.t) (h:(a.yes||b.yes)=true):lgH β0 w true (cIn x0 y0 x1 y1 x2 y2 x3 y3 T 0 0 x0 y0 (yvT2 x0 a b ha hb)) 1:=by
 cases a
 · cases b
   · cases h
   · exact last_ok (Ns:=[(4,13)]) (m:=200) hmA (fun β=>ok_of_maps (by kernel_rfl))
   · cases h
 · exact last_ok (Ns:=[(4,13)]) (m:=200) hmA (fun β=>ok_of_maps (by kernel_rfl))
 · cases b
   · cases h
   · exact last_ok (Ns:=[(4,13)]) (m:=200) hmA (fun β=>ok_of_maps (by kernel_rfl))
   · cases h
theorem lg_no01 {a b:T3} (ha:a.at y0.s) (hb:b.at y0.t) (h:(a.yes||b.yes)=false) (k:lgH β0 w r (cIn x0 y0 x1 y1 x2 y2 x3 y3 T 0 2 x0 y0 []) 1):lgH β0 w r (cIn x0 y0 x1 y1 x2 y2 x3 y3 T 0 1 x0 y0 (yvT2 y0 a b ha hb++[.cut])) 1:=by
 cases a
 · cases b
   · exact piece_ok (Ns:=[(4,13)]) (m:=200) [] [0,0,2] hmA (by kernel_rfl) (fun β=>ok_of_maps (by kernel_rfl)) k
   · cases h
   · exact piece_ok (Ns:=[(4,13)]) (m:=200) [] [0,0,2] hmA (by kernel_rfl) (fun β=>ok_of_maps (by kernel_rfl)) k
 · cases h
 · cases b
   · exact piece_ok (Ns:=[(4,13)]) (m:=200) [] [0,0,2] hmA (by kernel_rfl) (fun β=>ok_of_maps (by kernel_rfl)) k
   · cases h
   · exact piece_ok (Ns:=[(4,13)]) (m:=200) [] [0,0,2] hmA (by kernel_rfl) (fun β=>ok_of_maps (by kernel_rfl)) k
theorem lg_yes01 {a b:T3} (ha:a.at y0.s) (hb:b.at y0.t) (h:(a.yes||b.yes)=true):lgH β0 w true (cIn x0 y0 x1 y1 x2 y2 x3 y3 T 0 1 x0 y0 (yvT2 y0 a b ha hb)) 1:=by
 cases a
 · cases b
   · cases h
   · exact last_ok (Ns:=[(4,13)]) (m:=200) hmA (fun β=>ok_of_maps (by kernel_rfl))
   · cases h
 · exact last_ok (Ns:=[(4,13)]) (m:=200) hmA (fun β=>ok_of_maps (by kernel_rfl))
 · cases b
   · cases h
   · exact last_ok (Ns:=[(4,13)]) (m:=200) hmA (fun β=>ok_of_maps (by kernel_rfl))
   · cases h
theorem lg_out1 (h:lgH β0 w r (cIn x0 y0 x1 y1 x2 y2 x3 y3 T 1 0 x1 y1 []) 1):lgH β0 w r (cOut x0 y0 x1 y1 x2 y2 x3 y3 T 1 [.cut]) 0:=piece_ok (Ns:=[(4,13)]) (m:=200) [] [0,0,2] hmA (by kernel_rfl) (fun β=>ok_of_maps (by kernel_rfl)) h
theorem lg_back1 (h:lgH β0 w r (cOut x0 y0 x1 y1 x2 y2 x3 y3 T 2 []) 0):lgH β0 w r (cIn x0 y0 x1 y1 x2 y2 x3 y3 T 1 2 x1 y1 [.cut]) 1:=piece_ok (Ns:=[(4,13)]) (m:=200) [] [0,0] hmA (by kernel_rfl) (fun β=>ok_of_maps (by kernel_rfl)) h
theorem lg_no10 {a b:T3} (ha:a.at x1.s) (hb:b.at x1.t) (h:(a.yes||b.yes)=false) (k:lgH β0 w r (cIn x0 y0 x1 y1 x2 y2 x3 y3 T 1 1 x1 y1 []) 1):lgH β0 w r (cIn x0 y0 x1 y1 x2 y2 x3 y3 T 1 0 x1 y1 (yvT2 x1 a b ha hb++[.cut])) 1:=by
 cases a
 · cases b
   · exact piece_ok (Ns:=[(4,13)]) (m:=200) [] [0,0,2] hmA (by kernel_rfl) (fun β=>ok_of_maps (by kernel_rfl)) k
   · cases h
   · exact piece_ok (Ns:=[(4,13)]) (m:=200) [] [0,0,2] hmA (by kernel_rfl) (fun β=>ok_of_maps (by kernel_rfl)) k
 · cases h
 · cases b
   · exact piece_ok (Ns:=[(4,13)]) (m:=200) [] [0,0,2] hmA (by kernel_rfl) (fun β=>ok_of_maps (by kernel_rfl)) k
   · cases h
   · exact piece_ok (Ns:=[(4,13)]) (m:=200) [] [0,0,2] hmA (by kernel_rfl) (fun β=>ok_of_maps (by kernel_rfl)) k
theorem lg_yes10 {a b:T3} (ha:a.at x1.s) (hb:b.at x1.t) (h:(a.yes||b.yes)=true):lgH β0 w true (cIn x0 y0 x1 y1 x2 y2 x3 y3 T 1 0 x1 y1 (yvT2 x1 a b ha hb)) 1:=by
 cases a
 · cases b
   · cases h
   · exact last_ok (Ns:=[(4,13)]) (m:=200) hmA (fun β=>ok_of_maps (by kernel_rfl))
   · cases h
 · exact last_ok (Ns:=[(4,13)]) (m:=200) hmA (fun β=>ok_of_maps (by kernel_rfl))
 · cases b
   · cases h
   · exact last_ok (Ns:=[(4,13)]) (m:=200) hmA (fun β=>ok_of_maps (by kernel_rfl))
   · cases h
theorem lg_no11 {a b:T3} (ha:a.at y1.s) (hb:b.at y1.t) (h:(a.yes||b.yes)=false) (k:lgH β0 w r (cIn x0 y0 x1 y1 x2 y2 x3 y3 T 1 2 x1 y1 []) 1):lgH β0 w r (cIn x0 y0 x1 y1 x2 y2 x3 y3 T 1 1 x1 y1 (yvT2 y1 a b ha hb++[.cut])) 1:=by
 cases a
 · cases b
   · exact piece_ok (Ns:=[(4,13)]) (m:=200) [] [0,0,2] hmA (by kernel_rfl) (fun β=>ok_of_maps (by kernel_rfl)) k
   · cases h
   · exact piece_ok (Ns:=[(4,13)]) (m:=200) [] [0,0,2] hmA (by kernel_rfl) (fun β=>ok_of_maps (by kernel_rfl)) k
 · cases h
 · cases b
   · exact piece_ok (Ns:=[(4,13)]) (m:=200) [] [0,0,2] hmA (by kernel_rfl) (fun β=>ok_of_maps (by kernel_rfl)) k
   · cases h
   · exact piece_ok (Ns:=[(4,13)]) (m:=200) [] [0,0,2] hmA (by kernel_rfl) (fun β=>ok_of_maps (by kernel_rfl)) k
theorem lg_yes11 {a b:T3} (ha:a.at y1.s) (hb:b.at y1.t) (h:(a.yes||b.yes)=true):lgH β0 w true (cIn x0 y0 x1 y1 x2 y2 x3 y3 T 1 1 x1 y1 (yvT2 y1 a b ha hb)) 1:=by
 cases a
 · cases b
   · cases h
   · exact last_ok (Ns:=[(4,13)]) (m:=200) hmA (fun β=>ok_of_maps (by kernel_rfl))
   · cases h
 · exact last_ok (Ns:=[(4,13)]) (m:=200) hmA (fun β=>ok_of_maps (by kernel_rfl))
 · cases b
   · cases h
   · exact last_ok (Ns:=[(4,13)]) (m:=200) hmA (fun β=>ok_of_maps (by kernel_rfl))
   · cases h
theorem lg_out2 (h:lgH β0 w r (cIn x0 y0 x1 y1 x2 y2 x3 y3 T 2 0 x2 y2 []) 1):lgH β0 w r (cOut x0 y0 x1 y1 x2 y2 x3 y3 T 2 [.cut]) 0:=piece_ok (Ns:=[(4,13)]) (m:=200) [] [0,0,2] hmA (by kernel_rfl) (fun β=>ok_of_maps (by kernel_rfl)) h
theorem lg_back2 (h:lgH β0 w r (cOut x0 y0 x1 y1 x2 y2 x3 y3 T 3 []) 0):lgH β0 w r (cIn x0 y0 x1 y1 x2 y2 x3 y3 T 2 2 x2 y2 [.cut]) 1:=piece_ok (Ns:=[(4,13)]) (m:=200) [] [0,0] hmA (by kernel_rfl) (fun β=>ok_of_maps (by kernel_rfl)) h
theorem lg_no20 {a b:T3} (ha:a.at x2.s) (hb:b.at x2.t) (h:(a.yes||b.yes)=false) (k:lgH β0 w r (cIn x0 y0 x1 y1 x2 y2 x3 y3 T 2 1 x2 y2 []) 1):lgH β0 w r (cIn x0 y0 x1 y1 x2 y2 x3 y3 T 2 0 x2 y2 (yvT2 x2 a b ha hb++[.cut])) 1:=by
 cases a
 · cases b
   · exact piece_ok (Ns:=[(4,13)]) (m:=200) [] [0,0,2] hmA (by kernel_rfl) (fun β=>ok_of_maps (by kernel_rfl)) k
   · cases h
   · exact piece_ok (Ns:=[(4,13)]) (m:=200) [] [0,0,2] hmA (by kernel_rfl) (fun β=>ok_of_maps (by kernel_rfl)) k
 · cases h
 · cases b
   · exact piece_ok (Ns:=[(4,13)]) (m:=200) [] [0,0,2] hmA (by kernel_rfl) (fun β=>ok_of_maps (by kernel_rfl)) k
   · cases h
   · exact piece_ok (Ns:=[(4,13)]) (m:=200) [] [0,0,2] hmA (by kernel_rfl) (fun β=>ok_of_maps (by kernel_rfl)) k
theorem lg_yes20 {a b:T3} (ha:a.at x2.s) (hb:b.at x2.t) (h:(a.yes||b.yes)=true):lgH β0 w true (cIn x0 y0 x1 y1 x2 y2 x3 y3 T 2 0 x2 y2 (yvT2 x2 a b ha hb)) 1:=by
 cases a
 · cases b
   · cases h
   · exact last_ok (Ns:=[(4,13)]) (m:=200) hmA (fun β=>ok_of_maps (by kernel_rfl))
   · cases h
 · exact last_ok (Ns:=[(4,13)]) (m:=200) hmA (fun β=>ok_of_maps (by kernel_rfl))
 · cases b
   · cases h
   · exact last_ok (Ns:=[(4,13)]) (m:=200) hmA (fun β=>ok_of_maps (by kernel_rfl))
   · cases h
theorem lg_no21 {a b:T3} (ha:a.at y2.s) (hb:b.at y2.t) (h:(a.yes||b.yes)=false) (k:lgH β0 w r (cIn x0 y0 x1 y1 x2 y2 x3 y3 T 2 2 x2 y2 []) 1):lgH β0 w r (cIn x0 y0 x1 y1 x2 y2 x3 y3 T 2 1 x2 y2 (yvT2 y2 a b ha hb++[.cut])) 1:=by
 cases a
 · cases b
   · exact piece_ok (Ns:=[(4,13)]) (m:=200) [] [0,0,2] hmA (by kernel_rfl) (fun β=>ok_of_maps (by kernel_rfl)) k
   · cases h
   · exact piece_ok (Ns:=[(4,13)]) (m:=200) [] [0,0,2] hmA (by kernel_rfl) (fun β=>ok_of_maps (by kernel_rfl)) k
 · cases h
 · cases b
   · exact piece_ok (Ns:=[(4,13)]) (m:=200) [] [0,0,2] hmA (by kernel_rfl) (fun β=>ok_of_maps (by kernel_rfl)) k
   · cases h
   · exact piece_ok (Ns:=[(4,13)]) (m:=200) [] [0,0,2] hmA (by kernel_rfl) (fun β=>ok_of_maps (by kernel_rfl)) k
theorem lg_yes21 {a b:T3} (ha:a.at y2.s) (hb:b.at y2.t) (h:(a.yes||b.yes)=true):lgH β0 w true (cIn x0 y0 x1 y1 x2 y2 x3 y3 T 2 1 x2 y2 (yvT2 y2 a b ha hb)) 1:=by
 cases a
 · cases b
   · cases h
   · exact last_ok (Ns:=[(4,13)]) (m:=200) hmA (fun β=>ok_of_maps (by kernel_rfl))
   · cases h
 · exact last_ok (Ns:=[(4,13)]) (m:=200) hmA (fun β=>ok_of_maps (by kernel_rfl))
 · cases b
   · cases h
   · exact last_ok (Ns:=[(4,13)]) (m:=200) hmA (fun β=>ok_of_maps (by kernel_rfl))
   · cases h
theorem lg_out3 (h:lgH β0 w r (cIn x0 y0 x1 y1 x2 y2 x3 y3 T 3 0 x3 y3 []) 1):lgH β0 w r (cOut x0 y0 x1 y1 x2 y2 x3 y3 T 3 [.cut]) 0:=piece_ok (Ns:=[(4,13)]) (m:=200) [] [0,0,2] hmA (by kernel_rfl) (fun β=>ok_of_maps (by kernel_rfl)) h
theorem lg_back3 (h:lgH β0 w r (cOut x0 y0 x1 y1 x2 y2 x3 y3 T 4 []) 0):lgH β0 w r (cIn x0 y0 x1 y1 x2 y2 x3 y3 T 3 2 x3 y3 [.cut]) 1:=piece_ok (Ns:=[(4,13)]) (m:=200) [] [0,0] hmA (by kernel_rfl) (fun β=>ok_of_maps (by kernel_rfl)) h
theorem lg_no30 {a b:T3} (ha:a.at x3.s) (hb:b.at x3.t) (h:(a.yes||b.yes)=false) (k:lgH β0 w r (cIn x0 y0 x1 y1 x2 y2 x3 y3 T 3 1 x3 y3 []) 1):lgH β0 w r (cIn x0 y0 x1 y1 x2 y2 x3 y3 T 3 0 x3 y3 (yvT2 x3 a b ha hb++[.cut])) 1:=by
 cases a
 · cases b
   · exact piece_ok (Ns:=[(4,13)]) (m:=200) [] [0,0,2] hmA (by kernel_rfl) (fun β=>ok_of_maps (by kernel_rfl)) k
   · cases h
   · exact piece_ok (Ns:=[(4,13)]) (m:=200) [] [0,0,2] hmA (by kernel_rfl) (fun β=>ok_of_maps (by kernel_rfl)) k
 · cases h
 · cases b
   · exact piece_ok (Ns:=[(4,13)]) (m:=200) [] [0,0,2] hmA (by kernel_rfl) (fun β=>ok_of_maps (by kernel_rfl)) k
   · cases h
   · exact piece_ok (Ns:=[(4,13)]) (m:=200) [] [0,0,2] hmA (by kernel_rfl) (fun β=>ok_of_maps (by kernel_rfl)) k
theorem lg_yes30 {a b:T3} (ha:a.at x3.s) (hb:b.at x3.t) (h:(a.yes||b.yes)=true):lgH β0 w true (cIn x0 y0 x1 y1 x2 y2 x3 y3 T 3 0 x3 y3 (yvT2 x3 a b ha hb)) 1:=by
 cases a
 · cases b
   · cases h
   · exact last_ok (Ns:=[(4,13)]) (m:=200) hmA (fun β=>ok_of_maps (by kernel_rfl))
   · cases h
 · exact last_ok (Ns:=[(4,13)]) (m:=200) hmA (fun β=>ok_of_maps (by kernel_rfl))
 · cases b
   · cases h
   · exact last_ok (Ns:=[(4,13)]) (m:=200) hmA (fun β=>ok_of_maps (by kernel_rfl))
   · cases h
theorem lg_no31 {a b:T3} (ha:a.at y3.s) (hb:b.at y3.t) (h:(a.yes||b.yes)=false) (k:lgH β0 w r (cIn x0 y0 x1 y1 x2 y2 x3 y3 T 3 2 x3 y3 []) 1):lgH β0 w r (cIn x0 y0 x1 y1 x2 y2 x3 y3 T 3 1 x3 y3 (yvT2 y3 a b ha hb++[.cut])) 1:=by
 cases a
 · cases b
   · exact piece_ok (Ns:=[(4,13)]) (m:=200) [] [0,0,2] hmA (by kernel_rfl) (fun β=>ok_of_maps (by kernel_rfl)) k
   · cases h
   · exact piece_ok (Ns:=[(4,13)]) (m:=200) [] [0,0,2] hmA (by kernel_rfl) (fun β=>ok_of_maps (by kernel_rfl)) k
 · cases h
 · cases b
   · exact piece_ok (Ns:=[(4,13)]) (m:=200) [] [0,0,2] hmA (by kernel_rfl) (fun β=>ok_of_maps (by kernel_rfl)) k
   · cases h
   · exact piece_ok (Ns:=[(4,13)]) (m:=200) [] [0,0,2] hmA (by kernel_rfl) (fun β=>ok_of_maps (by kernel_rfl)) k
theorem lg_yes31 {a b:T3} (ha:a.at y3.s) (hb:b.at y3.t) (h:(a.yes||b.yes)=true):lgH β0 w true (cIn x0 y0 x1 y1 x2 y2 x3 y3 T 3 1 x3 y3 (yvT2 y3 a b ha hb)) 1:=by
 cases a
 · cases b
   · cases h
   · exact last_ok (Ns:=[(4,13)]) (m:=200) hmA (fun β=>ok_of_maps (by kernel_rfl))
   · cases h
 · exact last_ok (Ns:=[(4,13)]) (m:=200) hmA (fun β=>ok_of_maps (by kernel_rfl))
 · cases b
   · cases h
   · exact last_ok (Ns:=[(4,13)]) (m:=200) hmA (fun β=>ok_of_maps (by kernel_rfl))
   · cases h
theorem HdOk.ev {P:Program} {m0 n B0:Nat} {w0:World} {β0:Env} {Q:Exit→Act→World→Prop} {u:Nat} {sl:List (Nat × SV)} {ob:List Ob} {ev ev':List (Ev P)} {p:Code × List Kf} (h:HdOk P m0 n B0 w0 β0 Q (mkC P n u sl ob ev) p):HdOk P m0 n B0 w0 β0 Q (mkC P n u sl ob ev') p :=
 fun β a w hβ hs=>h β a w hβ (hs.ev ev)
end
section
variable {x0 y0 x1 y1 x2 y2 x3 y3:R4} {T:TypeId}
structure LgF (x:R4) (r:Bool):Prop where
 is:∃ a b:T3,a.at x.s∧b.at x.t∧(a.yes||b.yes)=r
theorem LgF.all (x:R4):∃ r,LgF x r:=by
 obtain ⟨a,ha⟩:=T3.all x.s
 obtain ⟨b,hb⟩:=T3.all x.t
 exact ⟨_,⟨a,b,ha,hb,rfl⟩⟩
theorem long4_hd {rx0 ry0 rx1 ry1 rx2 ry2 rx3 ry3:Bool} (hx0:LgF x0 rx0) (hy0:LgF y0 ry0) (hx1:LgF x1 rx1) (hy1:LgF y1 ry1) (hx2:LgF x2 rx2) (hy2:LgF y2 ry2) (hx3:LgF x3 rx3) (hy3:LgF y3 ry3) (β0:Env) (w:World):lgH β0 w (rx0||(ry0||(rx1||(ry1||(rx2||(ry2||(rx3||ry3))))))) (cOut x0 y0 x1 y1 x2 y2 x3 y3 T 0 []) 0:=by
 refine HdOk.ev (lg_out0 x0 y0 x1 y1 x2 y2 x3 y3 T β0 w _ ?_)
 obtain ⟨ax0,bx0,hax0,hbx0,ex0⟩:=hx0.is
 cases rx0 with
 | true=>exact HdOk.ev (lg_yes00 x0 y0 x1 y1 x2 y2 x3 y3 T β0 w hax0 hbx0 ex0)
 | false =>
 refine HdOk.ev (lg_no00 x0 y0 x1 y1 x2 y2 x3 y3 T β0 w _ hax0 hbx0 ex0 ?_)
 obtain ⟨ay0,by0,hay0,hby0,ey0⟩:=hy0.is
 cases ry0 with
 | true=>exact HdOk.ev (lg_yes01 x0 y0 x1 y1 x2 y2 x3 y3 T β0 w hay0 hby0 ey0)
 | false =>
 refine HdOk.ev (lg_no01 x0 y0 x1 y1 x2 y2 x3 y3 T β0 w _ hay0 hby0 ey0 ?_)
 refine HdOk.ev (lg_back0 x0 y0 x1 y1 x2 y2 x3 y3 T β0 w _ ?_)
 refine HdOk.ev (lg_out1 x0 y0 x1 y1 x2 y2 x3 y3 T β0 w _ ?_)
 obtain ⟨ax1,bx1,hax1,hbx1,ex1⟩:=hx1.is
 cases rx1 with
 | true=>exact HdOk.ev (lg_yes10 x0 y0 x1 y1 x2 y2 x3 y3 T β0 w hax1 hbx1 ex1)
 | false =>
 refine HdOk.ev (lg_no10 x0 y0 x1 y1 x2 y2 x3 y3 T β0 w _ hax1 hbx1 ex1 ?_)
 obtain ⟨ay1,by1,hay1,hby1,ey1⟩:=hy1.is
 cases ry1 with
 | true=>exact HdOk.ev (lg_yes11 x0 y0 x1 y1 x2 y2 x3 y3 T β0 w hay1 hby1 ey1)
 | false =>
 refine HdOk.ev (lg_no11 x0 y0 x1 y1 x2 y2 x3 y3 T β0 w _ hay1 hby1 ey1 ?_)
 refine HdOk.ev (lg_back1 x0 y0 x1 y1 x2 y2 x3 y3 T β0 w _ ?_)
 refine HdOk.ev (lg_out2 x0 y0 x1 y1 x2 y2 x3 y3 T β0 w _ ?_)
 obtain ⟨ax2,bx2,hax2,hbx2,ex2⟩:=hx2.is
 cases rx2 with
 | true=>exact HdOk.ev (lg_yes20 x0 y0 x1 y1 x2 y2 x3 y3 T β0 w hax2 hbx2 ex2)
 | false =>
 refine HdOk.ev (lg_no20 x0 y0 x1 y1 x2 y2 x3 y3 T β0 w _ hax2 hbx2 ex2 ?_)
 obtain ⟨ay2,by2,hay2,hby2,ey2⟩:=hy2.is
 cases ry2 with
 | true=>exact HdOk.ev (lg_yes21 x0 y0 x1 y1 x2 y2 x3 y3 T β0 w hay2 hby2 ey2)
 | false =>
 refine HdOk.ev (lg_no21 x0 y0 x1 y1 x2 y2 x3 y3 T β0 w _ hay2 hby2 ey2 ?_)
 refine HdOk.ev (lg_back2 x0 y0 x1 y1 x2 y2 x3 y3 T β0 w _ ?_)
 refine HdOk.ev (lg_out3 x0 y0 x1 y1 x2 y2 x3 y3 T β0 w _ ?_)
 obtain ⟨ax3,bx3,hax3,hbx3,ex3⟩:=hx3.is
 cases rx3 with
 | true=>exact HdOk.ev (lg_yes30 x0 y0 x1 y1 x2 y2 x3 y3 T β0 w hax3 hbx3 ex3)
 | false =>
 refine HdOk.ev (lg_no30 x0 y0 x1 y1 x2 y2 x3 y3 T β0 w _ hax3 hbx3 ex3 ?_)
 obtain ⟨ay3,by3,hay3,hby3,ey3⟩:=hy3.is
 cases ry3 with
 | true=>exact HdOk.ev (lg_yes31 x0 y0 x1 y1 x2 y2 x3 y3 T β0 w hay3 hby3 ey3)
 | false =>
 refine HdOk.ev (lg_no31 x0 y0 x1 y1 x2 y2 x3 y3 T β0 w _ hay3 hby3 ey3 ?_)
 refine HdOk.ev (lg_back3 x0 y0 x1 y1 x2 y2 x3 y3 T β0 w _ ?_)
 exact lg_end x0 y0 x1 y1 x2 y2 x3 y3 T β0 w
theorem long4_ok {rx0 ry0 rx1 ry1 rx2 ry2 rx3 ry3:Bool} (hx0:LgF x0 rx0) (hy0:LgF y0 ry0) (hx1:LgF x1 rx1) (hy1:LgF y1 ry1) (hx2:LgF x2 rx2) (hy2:LgF y2 ry2) (hx3:LgF x3 rx3) (hy3:LgF y3 ry3) (β:Env) (w:World) (hh:(Ob.box (lgCells x0 y0 x1 y1 x2 y2 x3 y3) T).holds β w (β 0)) :
  Calls Tryz.prog 130 #[.slice (some ⟨(β 0).b,0,none⟩) 4 4] w fun e w'=>e=.returned (.bool (rx0||(ry0||(rx1||(ry1||(rx2||(ry2||(rx3||ry3))))))))∧Below w.heap.size w w':=by
 refine (sx_cut (P:=Tryz.prog) lgA [.box (lgCells x0 y0 x1 y1 x2 y2 x3 y3) T] [.cut] [] [(4,13)] 200 (lB (rx0||(ry0||(rx1||(ry1||(rx2||(ry2||(rx3||ry3)))))))) [] Tryz.func130 hmA (u:=1) (sl:=[(0,.one (.c (.b (.s 0 0 4 4)))),(3,lI 0)]) (ob:=[.box (lgCells x0 y0 x1 y1 x2 y2 x3 y3) T,.dead]) (σ:=[0,0]) (p':=lpAt Tryz.f130 0) (by kernel_rfl) (fun β=>ok_of_maps (by kernel_rfl)) (by kernel_rfl) (by kernel_rfl) β w (fun k o ho=>?_) (long4_hd hx0 hy0 hx1 hy1 hx2 hy2 hx3 hy3 β w)).mono ?_
 · cases k with
   | zero=>simp only [List.getElem?_cons_zero] at ho; obtain rfl:=Option.some.inj ho; exact hh
   | succ k=>simp at ho
 · rintro e w' ⟨β',q,obj,e1,rfl,e2,e3,e4,g⟩
   exact ⟨rfl,g.bel⟩
end
abbrev OFN:List (Nat × Nat):=[(9,5007004005008),(15,16),(20,11)]
abbrev a3 (p q r:Rw):SV:=.one (.a (lsX (p.C++q.C++r.C)))
abbrev tB (t:Bool):SV:=.one (.c (.b (.v (.bool t))))
abbrev nI (k:Int):SC:=.c (.b (.v (.int .i64 k)))
section
variable {p q r s u v:Pt}
def of6E (z:P6 p q r s u v FitP):List (Ev Tryz.prog):=[(sSpotP p z.1).e,(sSpotP s z.2.2.2.1).e,(sSpotP q z.2.1).e,(sSpotP u z.2.2.2.2.1).e,(sSpotP r z.2.2.1).e,(sSpotP v z.2.2.2.2.2).e]
def twE {t1 t2 t3 t4 t5 t6:Bool} (h1:ptB p q=t1) (h2:ptB s u=t2) (h3:ptB q r=t3) (h4:ptB u v=t4) (h5:ptB r p=t5) (h6:ptB v s=t6):List (Ev Tryz.prog) :=
 eqEvPt h1::(bif t1 then [] else eqEvPt h2::(bif t2 then [] else eqEvPt h3::(bif t3 then [] else eqEvPt h4::(bif t4 then [] else eqEvPt h5::(bif t5 then [] else [eqEvPt h6])))))
abbrev KFb:Nat:=1024
theorem of1z (z:P6 p q r s u v FitP) (h:Six p q r s u v):MSz (dsz (csz KFb)) (mcha p q r):=mcha_sz z.1.sz z.2.1.sz z.2.2.1.sz (by decide) h.r1
theorem of2z (z:P6 p q r s u v FitP) (h:Six p q r s u v):MSz (dsz (csz KFb)) (mcha s u v):=mcha_sz z.2.2.2.1.sz z.2.2.2.2.1.sz z.2.2.2.2.2.sz (by decide) h.r2
theorem of3z (z:P6 p q r s u v FitP) (t:Bool) (h:Six p q r s u v):MSz (dsz (bsz 1 (dsz (csz KFb)))) (mcmp (mid t) (mcha p q r)):=mcmp_sz (mid_sz t (k:=1)) (of1z z h) (h.r3 t)
theorem of4z (z:P6 p q r s u v FitP) (h:Six p q r s u v):MSz (dsz (dsz (csz KFb))) (minv (mcha s u v)):=minv_sz (of2z z h) h.r4
theorem of5z (z:P6 p q r s u v FitP) (t:Bool) (h:Six p q r s u v):MSz KM (mof p q r s u v t):=(mcmp_sz (of4z z h) (of3z z t h) (h.r5 t)).mono (by decide)
theorem mof_nrm (t:Bool) (h:Six p q r s u v):Nrm (mof p q r s u v t):=Nrm.cmp (h.r4.mnorm) (h.r3 t).mnorm
set_option maxHeartbeats 4000000 in
noncomputable def sOf3 (z:P6 p q r s u v FitP) (t:Bool) (h:Six p q r s u v):Spec Tryz.prog :=
 Spec.auto Tryz.call69 [a3 p.w q.w r.w,a3 s.w u.w v.w,tB t] [] (.tup [.a (lsX (maC (mof p q r s u v t))),nI (maK (mof p q r s u v t))]) []
  (of6E z++twE (ptB_ne' h.a) (ptB_ne' h.d) (ptB_ne' h.b) (ptB_ne' h.e) (ptB_ne' h.c) (ptB_ne' h.f) ++
   [sStill.e,(sChaR (z.2.2.2.1.sz.mono (by decide)) (z.2.2.2.2.1.sz.mono (by decide)) (z.2.2.2.2.2.sz.mono (by decide)) h.r2).e,(sUndoR ((of2z z h).mono (by decide)) h.r2.mnorm).e,
    (sChaR (z.1.sz.mono (by decide)) (z.2.1.sz.mono (by decide)) (z.2.2.1.sz.mono (by decide)) h.r1).e,(sBehR ((mid_sz t (k:=1)).mono (by decide)) ((of1z z h).mono (by decide)) (h.r3 t)).e,
    (sBehR ((of4z z h).mono (by decide)) ((of3z z t h).mono (by decide)) (h.r5 t)).e,(sToldN (of5z z t h) (mof_nrm t h)).e]) OFN 1200 Tryz.func69 hmA (by kernel_rfl) (fun β=>by kernel_rfl)
end
end Go.Proofs.YtmfedaakeeiolaaGreat.Y
end
