/- SyC, MpM, MpW, MwM, MwN, MwB, MwC, CbM, CbL, Mcp, MwD, CbW, CxA, LsA, LsR. -/
import Derived.Deep.MidRow
import Derived.Deep.Upon
import Derived.Test.YtmfedaakeeiolaaGreatSk12
set_option linter.unnecessarySimpa false
set_option linter.unusedVariables false
set_option linter.unusedSimpArgs false
section
namespace Go.Proofs.YtmfedaakeeiolaaGreat.Y
open Go Go.RowKit
inductive Stop (P:Program) where
 | ended (f:Cf P)
 | head (c:Code) (ks:List Kf) (f:Cf P)
def Stop.cf {P:Program}:Stop P→Cf P
 | .ended f=>f
 | .head _ _ f=>f
def runP (P:Program) (m0 n:Nat) (Ns:List (Nat × Nat)):Nat→Option Code→List Kf→Cf P→Option (Stop P)
 | 0,_,_,_=>none
 | m+1,oc,ks,f=>match oc with
  | none=>match ks with
   | []=>some (.ended f)
   | .sq c::r=>runP P m0 n Ns m (some c) r f
   | .bl _::r=>runP P m0 n Ns m none r f
   | .lp c::r=>match f.ev with
    | .cut::ev'=>some (.head c r { f with ev:=ev' })
    | _=>runP P m0 n Ns m (some c) (.lp c::r) f
   | .sc::r=>runP P m0 n Ns m none r f
  | some c=>match c with
   | .skip=>runP P m0 n Ns m none ks f
   | .label _=>runP P m0 n Ns m none ks f
   | .region id ops d=>match (bif d then drawS1 P m0 n Ns id ops.toList f else seqS P m0 n ops ops.toList f) with
    | some f'=>runP P m0 n Ns m none ks f'
    | none=>none
   | .seq a b=>runP P m0 n Ns m (some a) (.sq b::ks) f
   | .cond x a b=>match evS idE f.sl x with
    | .bool true=>runP P m0 n Ns m (some a) ks { f with cs:=(fun β=>[(.v (evS β f.sl x),.v (.bool true))])::f.cs }
    | .bool false=>runP P m0 n Ns m (some b) ks { f with cs:=(fun β=>[(.v (evS β f.sl x),.v (.bool false))])::f.cs }
    | _=>none
   | .block id c=>runP P m0 n Ns m (some c) (.bl id::ks) f
   | .loop c=>match f.ev with
    | .cut::ev'=>some (.head c ks { f with ev:=ev' })
    | _=>runP P m0 n Ns m (some c) (.lp c::ks) f
   | .scope c=>runP P m0 n Ns m (some c) (.sc::ks) f
   | .exit id=>match popTo id ks with
    | some r=>runP P m0 n Ns m none r f
    | none=>none
   | .ret=>some (.ended f)
   | _=>none
def Stop.after {P:Program} (Q:Exit→Act→World→Prop) (a:Act) (w:World):Stop P→Prop
 | .ended _=>Q .normal a w∧Q .ret a w
 | .head c ks _=>Rounds P c (post P Q ks) a w
theorem Sync.ev {P:Program} {m0 n:Nat} {B0:Bd} {w0:World} {c:Cf P} {β:Env} {a:Act} {w:World} (h:Sync P m0 n B0 w0 c β a w) (x:List (Ev P)):Sync P m0 n B0 w0 { c with ev:=x } β a w:=⟨h.good,h.q,h.sl,h.of,h.m0,h.defers,h.uq⟩
theorem runP_ok {P:Program} {m0 n:Nat} {Ns:List (Nat × Nat)} (hm:P.follows .mixedOrders=true):∀ (m:Nat) (oc:Option Code) (ks:List Kf) (f:Cf P) (s:Stop P),runP P m0 n Ns m oc ks f=some s→f.full→(∀ x∈f.cs,x∈s.cf.cs)∧s.cf.full ∧
  (s.cf.good→∀ {B0:Bd} {w0:World} {β:Env} {a:Act} {w:World},Sync P m0 n B0 w0 f β a w→∀ (Q:Exit→Act→World→Prop),(∀ β' a' w',(∀ k,k<B0.k→β' k=β k)→Sync P m0 n B0 w0 s.cf β' a' w'→s.after Q a' w')→toShow P Q oc ks a w):=by
 intro m
 induction m with
 | zero=>intro oc ks f f' h; simp only [runP] at h; cases h
 | succ m ih =>
  intro oc ks f f' h hf
  simp only [runP] at h
  cases oc with
  | none =>
   dsimp only at h
   cases ks with
   | nil =>
    obtain rfl:=Option.some.inj h
    exact ⟨fun _ hx=>hx,hf,fun _ B0 w0 β a w s Q hQ=>(hQ β a w (fun _ _=>rfl) s).1⟩
   | cons x r =>
    cases x with
    | sq c=>obtain ⟨i1,i2,i3⟩:=ih _ _ _ _ h hf; exact ⟨i1,i2,fun hg B0 w0 β a w s Q hQ=>i3 hg s Q hQ⟩
    | bl j =>
     obtain ⟨i1,i2,i3⟩:=ih _ _ _ _ h hf
     exact ⟨i1,i2,fun hg B0 w0 β a w s Q hQ=>i3 hg s Q hQ⟩
    | lp c =>
     dsimp only at h
     split at h
     · obtain rfl:=Option.some.inj h
       exact ⟨fun _ hx=>hx,hf,fun _ B0 w0 β a w s Q hQ=>hQ β a w (fun _ _=>rfl) (s.ev _)⟩
     · obtain ⟨i1,i2,i3⟩:=ih _ _ _ _ h hf
       exact ⟨i1,i2,fun hg B0 w0 β a w s Q hQ=>rounds_one (i3 hg s Q hQ)⟩
    | sc=>obtain ⟨i1,i2,i3⟩:=ih _ _ _ _ h hf; exact ⟨i1,i2,fun hg B0 w0 β a w s Q hQ=>i3 hg s Q hQ⟩
  | some c =>
   cases c with
   | skip=>obtain ⟨i1,i2,i3⟩:=ih _ _ _ _ h hf; exact ⟨i1,i2,fun hg B0 w0 β a w s Q hQ=>wp_skip (i3 hg s Q hQ)⟩
   | label l=>obtain ⟨i1,i2,i3⟩:=ih _ _ _ _ h hf; exact ⟨i1,i2,fun hg B0 w0 β a w s Q hQ=>wp_label (i3 hg s Q hQ)⟩
   | region rid ops d =>
    dsimp only at h
    split at h
    · rename_i f1 h1
      cases d with
      | true =>
       simp only [cond_true] at h1
       have hf1:=drawS1_full h1 hf
       obtain ⟨i1,i2,i3⟩:=ih _ _ _ _ h hf1
       obtain ⟨j1,j2⟩:=drawS1_ok hm h1 (fun k hk=>(hf.1 k).1 hk) hf.2
       refine ⟨fun x hx=>i1 x (j1 x hx),i2,fun hg B0 w0 β a w s Q hQ=>?_⟩
       have:=j2 (fun β x hx=>hg β x (i1 x hx)) s (post P Q ks) fun β' a' w' e s'=>i3 hg s' Q fun β2 a2 w2 e2 s2=>hQ β2 a2 w2 (fun k hk=>(e2 k hk).trans (e k hk)) s2
       unfold RegAny at this
       simp only [Array.toArray_toList] at this
       exact wp_region_any hm this
      | false =>
       simp only [cond_false] at h1
       have hf1:=seqS_full h1 hf
       obtain ⟨i1,i2,i3⟩:=ih _ _ _ _ h hf1
       obtain ⟨j1,j2⟩:=seqS_ok h1
       exact ⟨fun x hx=>i1 x (j1 x hx),i2,fun hg B0 w0 β a w s Q hQ=>wp_region_list (j2 (fun β x hx=>hg β x (i1 x hx)) s (post P Q ks) fun β' a' w' e s'=>i3 hg s' Q fun β2 a2 w2 e2 s2=>hQ β2 a2 w2 (fun k hk=>(e2 k hk).trans (e k hk)) s2)⟩
    · cases h
   | seq c d=>obtain ⟨i1,i2,i3⟩:=ih _ _ _ _ h hf; exact ⟨i1,i2,fun hg B0 w0 β a w s Q hQ=>wp_seq (i3 hg s Q hQ)⟩
   | cond x c d =>
    dsimp only at h
    split at h
    · obtain ⟨i1,i2,i3⟩:=ih _ _ _ _ h hf
      refine ⟨fun y hy=>i1 y (List.mem_cons_of_mem _ hy),i2,fun hg B0 w0 β a w s Q hQ=>?_⟩
      obtain ⟨e,_⟩:=Eqs.cons_ok (hg β _ (i1 _ (List.mem_cons_self ..)))
      injection e with e
      exact wp_cond_true (by rw [s.sl.eval]; exact e) (i3 hg (s.cs _) Q hQ)
    · obtain ⟨i1,i2,i3⟩:=ih _ _ _ _ h hf
      refine ⟨fun y hy=>i1 y (List.mem_cons_of_mem _ hy),i2,fun hg B0 w0 β a w s Q hQ=>?_⟩
      obtain ⟨e,_⟩:=Eqs.cons_ok (hg β _ (i1 _ (List.mem_cons_self ..)))
      injection e with e
      exact wp_cond_false (by rw [s.sl.eval]; exact e) (i3 hg (s.cs _) Q hQ)
    · cases h
   | block j c=>obtain ⟨i1,i2,i3⟩:=ih _ _ _ _ h hf; exact ⟨i1,i2,fun hg B0 w0 β a w s Q hQ=>wp_block (i3 hg s Q hQ)⟩
   | loop c =>
    dsimp only at h
    split at h
    · obtain rfl:=Option.some.inj h
      exact ⟨fun _ hx=>hx,hf,fun _ B0 w0 β a w s Q hQ=>rounds_loop (hQ β a w (fun _ _=>rfl) (s.ev _))⟩
    · obtain ⟨i1,i2,i3⟩:=ih _ _ _ _ h hf
      exact ⟨i1,i2,fun hg B0 w0 β a w s Q hQ=>rounds_loop (rounds_one (i3 hg s Q hQ))⟩
   | rangeFunc _ _ _ _=>cases h
   | exit j =>
    dsimp only at h
    split at h
    · rename_i r hr
      obtain ⟨i1,i2,i3⟩:=ih _ _ _ _ h hf
      exact ⟨i1,i2,fun hg B0 w0 β a w s Q hQ=>wp_exit (post_exit hr (i3 hg s Q hQ))⟩
    · cases h
   | scope c=>obtain ⟨i1,i2,i3⟩:=ih _ _ _ _ h hf; exact ⟨i1,i2,fun hg B0 w0 β a w s Q hQ=>wp_scope_straight (i3 hg s Q hQ)⟩
   | goto _=>cases h
   | ret =>
    obtain rfl:=Option.some.inj h
    exact ⟨fun _ hx=>hx,hf,fun _ B0 w0 β a w s Q hQ=>wp_ret (post_ret (hQ β a w (fun _ _=>rfl) s).2 ks)⟩
   | refuse _=>cases h
def loopsOf:Nat→Code→List Kf→List (Code × List Kf)
 | 0,_,_=>[]
 | m+1,c,ks=>match c with
  | .seq a b=>loopsOf m a (.sq b::ks)++loopsOf m b ks
  | .cond _ a b=>loopsOf m a ks++loopsOf m b ks
  | .block id c=>loopsOf m c (.bl id::ks)
  | .loop c=>(c,ks)::loopsOf m c (.lp c::ks)
  | .scope c=>loopsOf m c (.sc::ks)
  | _=>[]
def lpAt (fn:Func) (i:Nat):Code × List Kf:=match fn.body with
 | some c=>(loopsOf 200 c []).getD i (.skip,[])
 | none=>(.skip,[])
def Stop.pos {P:Program}:Stop P→Option (Code × List Kf)
 | .ended _=>none
 | .head c ks _=>some (c,ks)
def mkC (P:Program) (n u:Nat) (sl:List (Nat × SV)) (ob:List Ob) (ev:List (Ev P)):Cf P :=
 ⟨sl++(List.range n).map fun t=>(t,.one (.c (.b (.gh u t)))),fun k=>Nat.blt k ob.length,ob,ev,[]⟩
def tEq1 (β:Env) (σ:List Nat):Env:=fun j=>β (σ.getD j 0)
def opaqB (u t:Nat):SV→Bool
 | .one (.c (.b (.gh k i)))=>Nat.beq k u&&Nat.beq i t
 | _=>false
def layB:Ob→Bool
 | .box _ _=>true
 | .row _ _ _ _=>true
 | .ow _ _=>true
 | _=>false
def deadB:Ob→Bool
 | .dead=>true
 | _=>false
def kindB:Ob→Ob→Bool
 | .th _,.th _=>true
 | .al _ _,.th _=>true
 | .box _ _,.box _ _=>true
 | .row _ _ _ _,.row _ _ _ _=>true
 | .ow _ _,.ow _ _=>true
 | .ow _ _,.th _=>true
 | _,.dead=>true
 | _,_=>false
def wkB (m0 u:Nat) (obS obT:List Ob) (σ:List Nat):Bool :=
 Nat.beq σ.length obT.length&&Nat.ble m0 u&&Nat.blt u obT.length&&(List.range m0).all (fun i=>Nat.beq (σ.getD i 0) i) &&
 (List.range obT.length).all fun j=>match obT[j]? with
  | none=>false
  | some x=>(bif Nat.beq j u then deadB x else match obS[σ.getD j 0]? with
    | none=>false
    | some y=>kindB y x&&x.of (fun k=>Nat.blt k obT.length&&!Nat.beq k u)) &&
   (bif layB x then (!Nat.ble m0 j||Nat.ble m0 (σ.getD j 0))&&(List.range obT.length).all (fun i=>Nat.beq i j||(Nat.beq i u||((match obT[i]? with | some y=>deadB y | none=>false)||!Nat.beq (σ.getD i 0) (σ.getD j 0)))) else true)
def wkOb (β:Env) (σ:List Nat):Ob→Ob→Eqs
 | .box cs t,.box cs' t'=>[(.n t,.n t'),(.v (.agg (cs.map (Lf.den β)).toArray),.v (.agg (cs'.map (Lf.den (tEq1 β σ))).toArray))]
 | .row cs t n sz,.row cs' t' n' sz'=>[(.n t,.n t'),(.n n,.n n'),(.n sz,.n sz'),(.v (.agg (cs.map (Lf.den β)).toArray),.v (.agg (cs'.map (Lf.den (tEq1 β σ))).toArray))]
 | .ow D t,.ow D' t'=>[(.ob (.ow D t),.ob (.ow D' t'))]
 | .ow D _,.th t'=>[(.ob (.th D),.ob (.th t'))]
 | y,.th t=>[(.ob (y.plain (.th t)),.ob (.th t))]
 | _,_=>[]
def wkObs (β:Env) (obS:List Ob) (σ:List Nat):List Ob→Nat→Eqs
 | [],_=>[]
 | x::r,j=>(match obS[σ.getD j 0]? with | some y=>wkOb β σ y x | none=>(match x with | .dead=>[] | _=>Eqs.no))++wkObs β obS σ r (j+1)
def wkSl (β:Env) (u L:Nat) (σ:List Nat) (slS slT:List (Nat × SV)):Nat→Eqs
 | 0=>[]
 | t+1=>(bif opaqB u t (look slT t) then [] else bif (look slT t).of (fun k=>Nat.blt k L&&!Nat.beq k u) then [(.v ((look slS t).den β),.v ((look slT t).den (tEq1 β σ)))] else Eqs.no)++wkSl β u L σ slS slT t
def pieceE (P:Program) (m0 n:Nat) (s:Option (Stop P)) (u:Nat) (sl:List (Nat × SV)) (ob:List Ob) (σ:List Nat) (β:Env):Eqs :=
 match s with
 | some (.head _ _ f)=>(bif wkB m0 u f.ob ob σ&&Nat.beq f.ev.length 0&&sl.all (fun p=>Nat.blt p.1 n) then [] else Eqs.no)++(wkObs β f.ob σ ob 0++(wkSl β u ob.length σ f.sl (mkC P n u sl ob []).sl n++eqsOf β f.cs))
 | _=>Eqs.no
def lastE (P:Program) (fn:Func) (m0 n:Nat) (res:SV) (outs:List (Nat × Ob)) (s:Option (Stop P)) (β:Env):Eqs :=
 match s with
 | some (.ended f)=>fin1 P fn m0 n res outs f β
 | _=>Eqs.no
theorem Eqs.left {a b:Eqs} (h:Eqs.ok (a++b)):Eqs.ok a:=fun p hp=>h p (List.mem_append.2 (.inl hp))
theorem Eqs.right {a b:Eqs} (h:Eqs.ok (a++b)):Eqs.ok b:=fun p hp=>h p (List.mem_append.2 (.inr hp))
theorem bif_ok {b:Bool} (h:Eqs.ok (bif b then [] else Eqs.no)):b=true:=by
 cases b
 · exact (Eqs.no_ok h).elim
 · rfl
theorem look_none:∀ {l:List (Nat × SV)} {t:Nat},(∀ p∈l,p.1≠t)→look l t=undefS
 | [],_,_=>rfl
 | (k,x)::r,t,h=>by
  unfold look
  rw [show Nat.beq k t=false by rw [Bool.eq_false_iff,ne_eq,Nat.beq_eq]; exact h (k,x) (List.mem_cons_self ..),cond_false]
  exact look_none fun p hp=>h p (List.mem_cons_of_mem _ hp)
theorem wkObs_ok {β:Env} {obS:List Ob} {σ:List Nat}:∀ {obT:List Ob} {i:Nat},Eqs.ok (wkObs β obS σ obT i)→∀ (j:Nat) (x y:Ob),obT[j]?=some x→obS[σ.getD (i+j) 0]?=some y→Eqs.ok (wkOb β σ y x)
 | [],_,_,j,x,y,h,_=>by simp at h
 | z::r,i,h,j,x,y,hx,hy=>by
  unfold wkObs at h
  cases j with
  | zero =>
   simp only [List.getElem?_cons_zero] at hx
   obtain rfl:=Option.some.inj hx
   have:=Eqs.left h
   rw [Nat.add_zero] at hy
   rw [hy] at this
   exact this
  | succ j=>exact wkObs_ok (Eqs.right h) j x y (by simpa using hx) (by rw [show i+1+j=i+(j+1) by omega]; exact hy)
theorem opaqB_eq {u t:Nat} {x:SV} (h:opaqB u t x=true):x=.one (.c (.b (.gh u t))):=by
 unfold opaqB at h
 split at h
 · rw [Bool.and_eq_true,Nat.beq_eq,Nat.beq_eq] at h
   obtain ⟨rfl,rfl⟩:=h
   rfl
 · cases h
theorem wkSl_ok {β:Env} {u L:Nat} {σ:List Nat} {slS slT:List (Nat × SV)}:∀ {n:Nat},Eqs.ok (wkSl β u L σ slS slT n)→∀ t,t<n→look slT t=.one (.c (.b (.gh u t)))∨((look slT t).of (fun k=>Nat.blt k L&&!Nat.beq k u)=true∧(look slS t).den β=(look slT t).den (tEq1 β σ))
 | 0,_,t,h=>by omega
 | n+1,h,t,ht=>by
  unfold wkSl at h
  by_cases e:t=n
  · subst e
    have h:=Eqs.left h
    cases ho:opaqB u t (look slT t) with
    | true=>exact .inl (opaqB_eq ho)
    | false =>
     rw [ho,cond_false] at h
     cases hq:(look slT t).of (fun k=>Nat.blt k L&&!Nat.beq k u) with
     | true =>
      rw [hq,cond_true] at h
      obtain ⟨e,_⟩:=Eqs.cons_ok h
      injection e with e
      exact .inr ⟨rfl,e⟩
     | false=>rw [hq,cond_false] at h; exact (Eqs.no_ok h).elim
  · exact wkSl_ok (Eqs.right h) t (by omega)
theorem layB_iff {x:Ob}:layB x=true↔∃ p,x.layOf=some p:=by
 cases x<;>simp [layB,Ob.layOf]
theorem kind_lay {y x:Ob} (h:kindB y x=true) (hx:layB x=true):layB y=true:=by
 cases y<;>cases x<;>first | rfl | (cases h; done) | (cases hx; done)
theorem kind_dead {y x:Ob} (h:kindB y x=true) (hx:x≠.dead):y≠.dead:=by
 cases y<;>cases x<;>first | (intro e; cases e; done) | (cases h; done) | exact absurd rfl hx
theorem wk_hold {β β':Env} {w:World} {g:Pl} {σ:List Nat} {q:Nat→Bool} {y x:Ob} (hk:kindB y x=true) (he:Eqs.ok (wkOb β σ y x)) (hq:x.of q=true) (hβ:∀ k,q k=true→tEq1 β σ k=β' k) (h:y.holds β w g):x.holds β' w g:=by
 have thc:∀ (y:Ob) (t:Thing),Eqs.ok [(Tm.ob (y.plain (.th t)),Tm.ob (.th t))]→y.holds β w g→(Ob.th t).holds β' w g:=fun y t he h=>by
  obtain ⟨e,_⟩:=Eqs.cons_ok he
  injection e with e
  have:=Ob.plain_holds (x:=.th t) h
  rw [e] at this
  exact this
 cases x with
 | dead=>exact trivial
 | al r D=>cases y<;>(cases hk; done)
 | pl n=>cases y<;>(cases hk; done)
 | th t =>
  cases y<;>first | (cases hk; done) | exact thc _ t he h | skip
  obtain ⟨e,_⟩:=Eqs.cons_ok he
  injection e with e
  injection e with e
  subst e
  exact h.2
 | ow D' t' =>
  cases y<;>first | (cases hk; done) | skip
  obtain ⟨e,_⟩:=Eqs.cons_ok he
  injection e with e
  injection e with e e2
  subst e e2
  exact h
 | box cs' t' =>
  cases y<;>first | (cases hk; done) | skip
  rename_i cs t
  obtain ⟨e1,he⟩:=Eqs.cons_ok he
  obtain ⟨e2,_⟩:=Eqs.cons_ok he
  injection e1 with e1
  injection e2 with e2
  injection e2 with e2
  have e2:=congrArg Array.toList e2
  dsimp only at e2
  subst e1
  have hc:cs'.map (Lf.den (tEq1 β σ))=cs'.map (Lf.den β'):=all_congr hq (Lf.den_congr hβ)
  refine ⟨h.1,?_⟩
  rw [← hc,← e2]
  exact h.2
 | row cs' t' n' sz' =>
  cases y<;>first | (cases hk; done) | skip
  rename_i cs t n sz
  obtain ⟨e1,he⟩:=Eqs.cons_ok he
  obtain ⟨e3,he⟩:=Eqs.cons_ok he
  obtain ⟨e4,he⟩:=Eqs.cons_ok he
  obtain ⟨e2,_⟩:=Eqs.cons_ok he
  injection e1 with e1
  injection e3 with e3
  injection e4 with e4
  injection e2 with e2
  injection e2 with e2
  have e2:=congrArg Array.toList e2
  dsimp only at e2
  subst e1 e3 e4
  have hc:cs'.map (Lf.den (tEq1 β σ))=cs'.map (Lf.den β'):=all_congr hq (Lf.den_congr hβ)
  have hl:cs'.length=cs.length:=by
   have:=congrArg List.length e2
   rw [List.length_map,List.length_map] at this
   exact this.symm
  obtain ⟨h0,cur,h1,h2,h3,h4,h5,h6⟩:=h
  refine ⟨h0,cur,h1,by rw [hl]; exact h2,h3,h4,h5,?_⟩
  rw [← hc,← e2]
  exact h6
theorem wk_sync {P:Program} {m0 n u:Nat} {B0:Bd} {w0:World} {f:Cf P} {sl:List (Nat × SV)} {ob:List Ob} {ev:List (Ev P)} {σ:List Nat} {β:Env} {a:Act} {w:World}
  (hB:wkB m0 u f.ob ob σ=true) (hn:sl.all (fun p=>Nat.blt p.1 n)=true) (hO:Eqs.ok (wkObs β f.ob σ ob 0)) (hS:Eqs.ok (wkSl β u ob.length σ f.sl (mkC P n u sl ob ev).sl n)) (h:Sync P m0 n B0 w0 f β a w) (hBk:B0.k≤m0:=by exact Nat.le_refl _) :
  ∃ β':Env,(∀ k,k<m0→β' k=β k)∧Sync P m0 n B0 w0 (mkC P n u sl ob ev) β' a w:=by
 unfold wkB at hB
 rw [Bool.and_eq_true,Bool.and_eq_true,Bool.and_eq_true,Bool.and_eq_true,Nat.beq_eq,Nat.ble_eq,Nat.blt_eq] at hB
 obtain ⟨⟨⟨⟨hlen,hmu⟩,hul⟩,hid⟩,hall⟩:=hB
 have hσ:∀ i,i<m0→σ.getD i 0=i:=fun i hi=>Nat.eq_of_beq_eq_true (List.all_eq_true.1 hid i (List.mem_range.2 hi))
 obtain ⟨β',hβ⟩:∃ β':Env,β'=fun j=>if j=u then ⟨0,fun _=>none,fun _=>0,fun _=>False,fun t=>a.tmps.getD t undef⟩ else β (σ.getD j 0):=⟨_,rfl⟩
 have hβu:β' u=⟨0,fun _=>none,fun _=>0,fun _=>False,fun t=>a.tmps.getD t undef⟩:=by rw [hβ]; exact if_pos rfl
 have hβo:∀ j,j≠u→β' j=β (σ.getD j 0):=fun j hj=>by rw [hβ]; exact if_neg hj
 have hβm:∀ k,k<m0→β' k=β k:=fun k hk=>by rw [hβo k (by omega),hσ k hk]
 have hq:∀ k,(Nat.blt k ob.length&&!Nat.beq k u)=true→tEq1 β σ k=β' k:=fun k hk=>by
  rw [Bool.and_eq_true,Bool.not_eq_true',Nat.blt_eq] at hk
  rw [hβo k (fun e=>by rw [e,Nat.beq_refl] at hk; cases hk.2)]
  rfl
 have hmono:∀ k,(Nat.blt k ob.length&&!Nat.beq k u)=true→Nat.blt k ob.length=true:=fun k hk=>by rw [Bool.and_eq_true] at hk; exact hk.1
 have hsrc:∀ (j:Nat) (x:Ob),ob[j]?=some x→(j=u→x=.dead)∧(j≠u→∃ y,f.ob[σ.getD j 0]?=some y∧kindB y x=true∧x.of (fun k=>Nat.blt k ob.length&&!Nat.beq k u)=true)∧(layB x=true→(m0≤j→m0≤σ.getD j 0)∧∀ (i:Nat) (y:Ob),ob[i]?=some y→y≠.dead→i≠j→i≠u→σ.getD i 0≠σ.getD j 0):=by
  intro j x hx
  have hj:j<ob.length:=(List.getElem?_eq_some_iff.1 hx).1
  have hc:=List.all_eq_true.1 hall j (List.mem_range.2 hj)
  rw [hx] at hc
  dsimp only at hc
  rw [Bool.and_eq_true] at hc
  obtain ⟨hc1,hc2⟩:=hc
  refine ⟨fun e=>?_,fun e=>?_,fun hl=>?_⟩
  · rw [e,Nat.beq_refl,cond_true] at hc1
    cases x<;>first | rfl | (cases hc1; done)
  · rw [show Nat.beq j u=false by rw [Bool.eq_false_iff,ne_eq,Nat.beq_eq]; exact e,cond_false] at hc1
    split at hc1
    · cases hc1
    · rename_i y hy
      rw [Bool.and_eq_true] at hc1
      exact ⟨y,hy,hc1.1,hc1.2⟩
  · rw [hl,cond_true,Bool.and_eq_true,Bool.or_eq_true] at hc2
    refine ⟨fun hm=>?_,fun i y hy hd hij hiu e=>?_⟩
    · rcases hc2.1 with h1 | h1
      · rw [Bool.not_eq_true',Bool.eq_false_iff,ne_eq,Nat.ble_eq] at h1
        exact absurd hm h1
      · exact Nat.le_of_ble_eq_true h1
    · have hi:i<ob.length:=(List.getElem?_eq_some_iff.1 hy).1
      have h1:=List.all_eq_true.1 hc2.2 i (List.mem_range.2 hi)
      rw [hy,Bool.or_eq_true,Bool.or_eq_true,Bool.or_eq_true,Nat.beq_eq,Nat.beq_eq,e,Nat.beq_refl] at h1
      rcases h1 with h1 | h1 | h1 | h1
      · exact hij h1
      · exact hiu h1
      · refine hd ?_
        cases y<;>first | rfl | (cases h1; done)
      · cases h1
 have hex:∀ {k:Nat} {y:Ob},f.ob[k]?=some y→f.q k=true:=fun {k y} hy=>(h.q k).2 (List.getElem?_eq_some_iff.1 hy).1
 have hob:∀ {k:Nat},Nat.blt k ob.length=true→∃ x,ob[k]?=some x:=fun {k} hk=>⟨_,List.getElem?_eq_getElem (by rw [Nat.blt_eq] at hk; exact hk)⟩
 have hfree:∀ {k:Nat} {x:Ob},ob[k]?=some x→Free (fun k=>Nat.blt k ob.length) (fun k=>ob[k]?) k→layB x=true∧k≠u:=fun {k x} hx hf=>by
  rcases hf with ⟨x',e,p,hp⟩ | ⟨⟨m,e⟩,_⟩
  · dsimp only at e
    rw [hx] at e
    obtain rfl:=Option.some.inj e
    refine ⟨layB_iff.2 ⟨p,hp⟩,fun e=>?_⟩
    rw [(hsrc k x hx).1 e] at hp
    cases hp
  · dsimp only at e
    rw [hx] at e
    obtain rfl:=Option.some.inj e
    exfalso
    by_cases ek:k=u
    · have:=(hsrc k _ hx).1 ek
      cases this
    · obtain ⟨y,_,hk,_⟩:=(hsrc k _ hx).2.1 ek
      cases y<;>(cases hk; done)
 have hlayS:∀ {k:Nat} {x:Ob},ob[k]?=some x→layB x=true→k≠u→f.q (σ.getD k 0)=true∧Free f.q (fun k=>f.ob[k]?) (σ.getD k 0):=fun {k x} hx hl hku=>by
  obtain ⟨y,hy,hk,_⟩:=(hsrc k x hx).2.1 hku
  obtain ⟨p,hp⟩:=layB_iff.1 (kind_lay hk hl)
  exact ⟨hex hy,Free.lay hy hp⟩
 refine ⟨β',hβm,⟨⟨h.good.bel,h.good.le,?_,?_,?_,?_,?_,?_,?_,?_,?_⟩,fun k=>by dsimp only [mkC]; rw [Nat.blt_eq],⟨h.sl.1,fun t=>?_⟩,fun t=>?_,?_,h.defers,?_⟩⟩
 ·
  intro k o hk hko
  dsimp only [mkC] at hk hko ⊢
  by_cases e:k=u
  · rw [(hsrc k o hko).1 e]
    exact ⟨trivial,rfl⟩
  · obtain ⟨y,hy,hkd,hof⟩:=(hsrc k o hko).2.1 e
    have hh:=(h.good.hold _ y (hex hy) hy).1
    refine ⟨?_,Ob.of_mono hmono _ hof⟩
    rw [hβo k e]
    refine wk_hold hkd (wkObs_ok hO k o y hko ?_) hof hq hh
    rw [Nat.zero_add]
    exact hy
 ·
  intro k hk c hc
  dsimp only [mkC] at hk
  by_cases e:k=u
  · rw [e,hβu] at hc; exact hc.elim
  · rw [hβo k e] at hc
    obtain ⟨x,hx⟩:=hob hk
    obtain ⟨y,hy,_⟩:=(hsrc k x hx).2.1 e
    exact h.good.lt _ (hex hy) c hc
 ·
  intro k j hk hj hne hm hf hd
  dsimp only [mkC] at hk hj hf hd
  obtain ⟨x,hx⟩:=hob hk
  obtain ⟨z,hz⟩:=hob hj
  obtain ⟨hl,hku⟩:=hfree hx hf
  by_cases e:j=u
  · rw [e,hβu]; exact fun hc=>hc.elim
  · obtain ⟨hs1,hs2⟩:=hlayS hx hl hku
    obtain ⟨hm2,hdis⟩:=(hsrc k x hx).2.2 hl
    obtain ⟨y,hy,hkd,_⟩:=(hsrc j z hz).2.1 e
    have hzd:z≠.dead:=fun e=>hd (by rw [hz,e])
    rw [hβo k hku,hβo j e]
    exact h.good.ne _ _ hs1 (hex hy) (hdis j z hz hzd hne e) (hm2 hm) hs2 (fun e=>kind_dead hkd hzd (Option.some.inj (hy.symm.trans e)))
 ·
  intro k x hk hm hx hmi
  dsimp only [mkC] at hk hx
  obtain ⟨hl,hku⟩:layB x=true∧k≠u:=by
   refine ⟨?_,fun e=>by rw [(hsrc k x hx).1 e] at hmi; cases hmi⟩
   cases x<;>first | (cases hmi; done) | exact layB_iff.2 ⟨_,rfl⟩ | skip
   exfalso
   by_cases ek:k=u
   · have:=(hsrc k _ hx).1 ek
     cases this
   · obtain ⟨y,_,hk,_⟩:=(hsrc k _ hx).2.1 ek
     cases y<;>(cases hk; done)
  obtain ⟨hs1,hs2⟩:=hlayS hx hl hku
  rw [hβo k hku]
  exact h.good.low _ hs1 (((hsrc k x hx).2.2 hl).1 hm) hs2
 ·
  intro k hk hm c hc
  dsimp only [mkC] at hk
  by_cases e:k=u
  · rw [e,hβu] at hc; exact hc.elim
  · rw [hβo k e] at hc
    obtain ⟨x,hx⟩:=hob hk
    obtain ⟨y,hy,_⟩:=(hsrc k x hx).2.1 e
    by_cases hs:m0≤σ.getD k 0
    · exact (h.good.fr _ (hex hy) hs c hc).imp id fun ⟨i,i1,i2⟩=>⟨i,i1,by rw [hβm i i1]; exact i2⟩
    · exact .inr ⟨σ.getD k 0,by omega,by rw [hβm _ (by omega)]; exact hc⟩
 · intro i hi
   dsimp only [mkC]
   rw [Nat.blt_eq]
   omega
 · intro k r D hk ho
   dsimp only [mkC] at ho
   exfalso
   by_cases e:k=u
   · have:=(hsrc k _ ho).1 e
     cases this
   · obtain ⟨y,_,hkd,_⟩:=(hsrc k _ ho).2.1 e
     cases y<;>(cases hkd; done)
 · intro k r D hk ho
   dsimp only [mkC] at ho
   exfalso
   by_cases e:k=u
   · have:=(hsrc k _ ho).1 e
     cases this
   · obtain ⟨y,_,hkd,_⟩:=(hsrc k _ ho).2.1 e
     cases y<;>(cases hkd; done)
 · intro k i hk hi hlt hm hd hp
   dsimp only [mkC] at hp
   obtain ⟨M,hp⟩:=hp
   exfalso
   by_cases e:i=u
   · have:=(hsrc i _ hp).1 e
     cases this
   · obtain ⟨y,_,hkd,_⟩:=(hsrc i _ hp).2.1 e
     cases y<;>(cases hkd; done)
 ·
  by_cases ht:t<n
  · rcases wkSl_ok hS t ht with e | ⟨e1,e2⟩
    · rw [e]
      show _=(β' u).u t
      rw [hβu]
    · rw [h.sl.2 t,e2]
      exact SV.den_congr hq _ e1
  · have hl:look (mkC P n u sl ob ev).sl t=undefS:=look_none fun p hp=>by
     rcases List.mem_append.1 hp with hp | hp
     · have:=List.all_eq_true.1 hn p hp
       rw [Nat.blt_eq] at this
       omega
     · obtain ⟨t',ht',rfl⟩:=List.mem_map.1 hp
       have:=List.mem_range.1 ht'
       dsimp only
       omega
    rw [hl]
    show a.tmps.getD t undef=undef
    rw [Array.getD_eq_getD_getElem?,Array.getElem?_eq_none (by rw [h.sl.1]; omega)]
    rfl
 · by_cases ht:t<n
   · rcases wkSl_ok hS t ht with e | ⟨e1,e2⟩
     · rw [e]
       show Nat.blt u ob.length=true
       rw [Nat.blt_eq]; exact hul
     · exact SV.of_mono hmono _ e1
   · have hl:look (mkC P n u sl ob ev).sl t=undefS:=look_none fun p hp=>by
      rcases List.mem_append.1 hp with hp | hp
      · have:=List.all_eq_true.1 hn p hp
        rw [Nat.blt_eq] at this
        omega
      · obtain ⟨t',ht',rfl⟩:=List.mem_map.1 hp
        have:=List.mem_range.1 ht'
        dsimp only
        omega
     rw [hl]; rfl
 · show m0≤ob.length∧B0.k≤ob.length
   omega
 · intro k j i D D' h1 h2
   exfalso
   by_cases e:k=u
   · have:=(hsrc k _ h1).1 e
     cases this
   · obtain ⟨y,_,hkd,_⟩:=(hsrc k _ h1).2.1 e
     cases y<;>(cases hkd; done)
def HdOk (P:Program) (m0 n:Nat) (N:Nat) (w0:World) (β0:Env) (Q:Exit→Act→World→Prop) (C:Cf P) (p:Code × List Kf):Prop :=
 ∀ (β:Env) (a:Act) (w:World),(∀ k,k<m0→β k=β0 k)→Sync P m0 n (bd0 N m0) w0 C β a w→Rounds P p.1 (post P Q p.2) a w
theorem pieceE_parts {P:Program} {m0 n:Nat} {c:Code} {ks:List Kf} {f:Cf P} {u:Nat} {sl:List (Nat × SV)} {ob:List Ob} {σ:List Nat} (ev:List (Ev P)) (he:∀ β,Eqs.ok (pieceE P m0 n (some (.head c ks f)) u sl ob σ β)) :
  f.good∧∀ {N:Nat} {w0:World} {β:Env} {a:Act} {w:World},Sync P m0 n (bd0 N m0) w0 f β a w→∃ β':Env,(∀ k,k<m0→β' k=β k)∧Sync P m0 n (bd0 N m0) w0 (mkC P n u sl ob ev) β' a w:=by
 refine ⟨fun β x hx=>eqsOf_ok (Eqs.right (Eqs.right (Eqs.right (he β)))) x hx,fun {N w0 β a w} hs=>?_⟩
 have h:=he β
 have h1:=bif_ok (Eqs.left h)
 rw [Bool.and_eq_true,Bool.and_eq_true] at h1
 exact wk_sync h1.1.1 h1.2 (Eqs.left (Eqs.right h)) (Eqs.left (Eqs.right (Eqs.right h))) hs
theorem piece_ok {P:Program} {m0 n:Nat} {N:Nat} {w0:World} {β0:Env} {Q:Exit→Act→World→Prop} {Ns:List (Nat × Nat)} {m:Nat} {C:Cf P} {p p':Code × List Kf} {u:Nat} {sl:List (Nat × SV)} {ob:List Ob} (ev:List (Ev P)) (σ:List Nat) (hm:P.follows .mixedOrders=true)
  (hp:(runP P m0 n Ns m (some p.1) (.lp p.1::p.2) C).bind Stop.pos=some p') (he:∀ β,Eqs.ok (pieceE P m0 n (runP P m0 n Ns m (some p.1) (.lp p.1::p.2) C) u sl ob σ β))
  (hH:HdOk P m0 n N w0 β0 Q (mkC P n u sl ob ev) p'):HdOk P m0 n N w0 β0 Q C p:=by
 intro β a w hβ hs
 cases hr:runP P m0 n Ns m (some p.1) (.lp p.1::p.2) C with
 | none=>rw [hr] at hp; cases hp
 | some s =>
  rw [hr] at hp he
  cases s with
  | ended f=>cases hp
  | head c ks f =>
   obtain rfl:(c,ks)=p':=Option.some.inj hp
   obtain ⟨hg,hw⟩:=pieceE_parts ev he
   obtain ⟨_,_,r3⟩:=runP_ok hm _ _ _ _ _ hr ⟨hs.q,hs.uq⟩
   refine rounds_one (r3 hg hs Q fun β' a' w' e s'=>?_)
   obtain ⟨β'',e2,s2⟩:=hw s'
   exact hH β'' a' w' (fun k hk=>(e2 k hk).trans ((e k hk).trans (hβ k hk))) s2
def Said (P:Program) (fn:Func) (m0:Nat) (res:SV) (outs:List (Nat × Ob)) (β:Env) (w:World) (e:Ending) (w':World):Prop :=
 ∃ (β':Env) (q:Nat→Bool) (obj:Nat→Option Ob),(∀ k,k<m0→β' k=β k)∧e=.returned (res.den β')∧res.of q=true∧(∀ p∈outs,∀ c,(β' p.1).F c→w.heap.size≤c∨∃ i,i<m0∧(β i).F c)∧holdsAll β' w' outs∧Fin w w'
theorem fin1_parts {P:Program} {fn:Func} {m0 n:Nat} {res:SV} {outs:List (Nat × Ob)} {f:Cf P} (h:∀ β,Eqs.ok (fin1 P fn m0 n res outs f β)):f.good∧∀ {β0:Env} {w:World} {β':Env} {a':Act} {w':World},(∀ k,k<m0→β' k=β0 k)→Sync P m0 n (bd0 w.heap.size m0) w f β' a' w' →
  bodyPost P fn (Said P fn m0 res outs β0 w) .normal a' w'∧bodyPost P fn (Said P fn m0 res outs β0 w) .ret a' w':=by
 have fin:∃ r:R1 Value,run1 P m0 false (results fn (tmpsS idE f.sl n)) f.q f.ob []=some r∧res.of f.q=true∧r.ob.length=f.ob.length ∧
   ∀ β,Eqs.ok (chk P β (results fn (tmpsS β f.sl n)) r.tr.reverse (fun u=>[(.v u,.v (res.den β))])++(needEqs f.q f.ob outs++eqsOf β f.cs)):=by
  cases hx:run1 P m0 false (results fn (tmpsS idE f.sl n)) f.q f.ob [] with
  | none=>have:=h idE; unfold fin1 at this; rw [hx] at this; exact (Eqs.no_ok this).elim
  | some r =>
   obtain ⟨ra,rq,rob,rtr⟩:=r
   cases hc:(res.of f.q&&Nat.beq rob.length f.ob.length&&Nat.beq f.ev.length 0) with
   | false=>have:=h idE; unfold fin1 at this; rw [hx] at this; dsimp only at this; rw [hc] at this; exact (Eqs.no_ok this).elim
   | true =>
    have h3:=hc
    simp only [Bool.and_eq_true,Nat.beq_eq] at hc
    refine ⟨_,rfl,hc.1.1,hc.1.2,fun β=>?_⟩
    have:=h β
    unfold fin1 at this
    rw [hx] at this
    dsimp only at this
    rw [h3] at this
    exact this
 obtain ⟨r,f1,f2,f3,f4⟩:=fin
 refine ⟨fun β x hx=>eqsOf_ok (fun p hp=>f4 β p (List.mem_append.2 (.inr (List.mem_append.2 (.inr hp))))) x hx,?_⟩
 intro β0 w β' a' w' e s
 obtain ⟨h5,_,_,tr,h8,h9⟩:=run1_ok _ _ _ _ _ f1 (fun k hk=>(s.q k).1 hk)
 obtain ⟨k1,obj',k2,k3,k4⟩:=h9 _ _ _ _ _ _ s.good (fun k hk=>⟨hk,rfl⟩) (fun k a b=>by omega) s.m0.1
 have h6:=f4 β'
 rw [h8,List.append_nil,List.reverse_reverse] at h6
 have h7:Eqs.ok (chk P β' (results fn (tmpsS β' f.sl n)) tr (fun u=>[(.v u,.v (res.den β'))])):=fun p hp=>h6 p (List.mem_append.2 (.inl hp))
 obtain ⟨v,hv,hv2⟩:=chk_run _ _ _ h7 k1
 obtain ⟨e1,_⟩:=Eqs.cons_ok hv2
 injection e1 with e1
 subst e1
 rw [f3,rangeQ_self] at k4
 have hend:trEnd β' w' tr=w':=by
  obtain ⟨tr2,x1,x2⟩:=run1_still _ _ _ _ _ f1 (fun k hk=>(s.q k).1 hk) f3
  rw [h8,List.append_nil,List.append_nil] at x1
  rw [List.reverse_inj.1 x1]
  exact x2 β' w'
 rw [hend] at hv k4
 rw [← tmps_eq s.sl] at hv
 have hout:∀ p:Nat × Ob,f.q p.1=true→∀ c,(β' p.1).F c→w.heap.size≤c∨∃ i,i<m0∧(β0 i).F c:=fun p hp c hc=>by
  by_cases h0:m0≤p.1
  · exact (s.good.fr p.1 hp h0 c hc).imp (fun a=>a.elim (fun a=>a.elim id False.elim) False.elim) fun ⟨i,i1,i2⟩=>⟨i,i1,by rw [← e i i1]; exact i2⟩
  · exact .inr ⟨p.1,by omega,by rw [← e p.1 (by omega)]; exact hc⟩
 have hneed:Eqs.ok (needEqs f.q f.ob outs):=fun p hp=>f4 β' p (List.mem_append.2 (.inr (List.mem_append.2 (.inl hp))))
 have hres:bodyPost P fn (Said P fn m0 res outs β0 w) .normal a' w':=⟨s.defers,_,hv,β',f.q,obj',e,rfl,f2,fun p hp c hc=>hout p (needs_q _ hneed p hp) c hc,needs_hold s.good (fun k hk=>⟨hk,rfl⟩) _ hneed,⟨k4.bel.below⟩⟩
 exact ⟨hres,hres⟩
theorem last_ok {P:Program} {fn:Func} {m0 n:Nat} {w:World} {β0:Env} {res:SV} {outs:List (Nat × Ob)} {Ns:List (Nat × Nat)} {m:Nat} {C:Cf P} {p:Code × List Kf} (hm:P.follows .mixedOrders=true)
  (he:∀ β,Eqs.ok (lastE P fn m0 n res outs (runP P m0 n Ns m (some p.1) (.lp p.1::p.2) C) β)):HdOk P m0 n w.heap.size w β0 (bodyPost P fn (Said P fn m0 res outs β0 w)) C p:=by
 intro β a w1 hβ hs
 cases hr:runP P m0 n Ns m (some p.1) (.lp p.1::p.2) C with
 | none=>have:=he idE; rw [hr] at this; exact (Eqs.no_ok this).elim
 | some s =>
  rw [hr] at he
  cases s with
  | head c ks f=>exact (Eqs.no_ok (he idE)).elim
  | ended f =>
   obtain ⟨hg,hw⟩:=fin1_parts he
   obtain ⟨_,_,r3⟩:=runP_ok hm _ _ _ _ _ hr ⟨hs.q,hs.uq⟩
   exact rounds_one (r3 hg hs _ fun β' a' w' e s'=>hw (fun k hk=>(e k hk).trans (hβ k hk)) s')
def startP (P:Program) (fn:Func) (args:List SV) (obs:List Ob) (evs:List (Ev P)) (Ns:List (Nat × Nat)) (m:Nat):Option (Stop P):=match fn.body with
 | some c=>runP P obs.length (sizeS fn args) Ns m (some c) [] ⟨startS args 0,fun k=>Nat.blt k obs.length,obs,evs,[]⟩
 | none=>none
theorem sx_cut {P:Program} {f:FuncId} {fn:Func} (args:List SV) (obs:List Ob) (evs ev:List (Ev P)) (Ns:List (Nat × Nat)) (m:Nat) (res:SV) (outs:List (Nat × Ob)) (hf:P.funcs[f]?=some fn) (hm:P.follows .mixedOrders=true) {u:Nat} {sl:List (Nat × SV)} {ob:List Ob} {σ:List Nat} {p':Code × List Kf}
  (hp:(startP P fn args obs evs Ns m).bind Stop.pos=some p') (he:∀ β,Eqs.ok (pieceE P obs.length (sizeS fn args) (startP P fn args obs evs Ns m) u sl ob σ β))
  (hargs:args.all (SV.of fun k=>Nat.blt k obs.length)=true) (hobs:obs.all (fun x=>x.of (fun k=>Nat.blt k obs.length)&&x.own)=true) (β:Env) (w:World) (hh:∀ (k:Nat) (o:Ob),obs[k]?=some o→o.holds β w (β k))
  (hH:HdOk P obs.length (sizeS fn args) w.heap.size w β (bodyPost P fn (Said P fn obs.length res outs β w)) (mkC P (sizeS fn args) u sl ob ev) p') :
  Calls P f (args.map (SV.den β)).toArray w (Said P fn obs.length res outs β w):=by
 have hnal:∀ (k r:Nat) (D:Thing),obs[k]?≠some (.al r D):=fun k r D ho=>by
  have:=List.all_eq_true.1 hobs _ (List.mem_of_getElem? ho)
  simp [Ob.own] at this
 have huq:UniqAl obs:=fun k j i D _ h1 _=>absurd h1 (hnal k i D)
 have hlt:∀ k,k<obs.length→∀ c,(β k).F c→c<w.heap.size:=fun k hk c hc=>by
  have h:=hh k _ (List.getElem?_eq_getElem hk)
  cases hx:obs[k] with
  | box cs t=>rw [hx] at h; rw [(h.1.1 c).1 hc]; exact heap_lt h.2
  | th D=>rw [hx] at h; exact D.st.lt _ _ h c hc
  | al r D=>rw [hx] at h; exact D.st.lt _ _ h c hc
  | pl n=>rw [hx] at h; rw [(h.1.1 c).1 hc]; exact h.2.lt
  | row cs t n sz=>rw [hx] at h; rw [(h.1.1 c).1 hc]; exact heap_lt h.2.choose_spec.1
  | ow D t=>rw [hx] at h; exact D.st.lt _ _ h.2 c hc
  | dead =>
   have:=List.all_eq_true.1 hobs _ (List.mem_of_getElem? (List.getElem?_eq_getElem hk))
   rw [hx] at this
   simp [Ob.own] at this
 cases hb:fn.body with
 | none=>unfold startP at hp; rw [hb] at hp; cases hp
 | some c =>
  have hst:startP P fn args obs evs Ns m=runP P obs.length (sizeS fn args) Ns m (some c) [] ⟨startS args 0,fun k=>Nat.blt k obs.length,obs,evs,[]⟩:=by unfold startP; rw [hb]
  rw [hst] at hp he
  cases hr:runP P obs.length (sizeS fn args) Ns m (some c) [] ⟨startS args 0,fun k=>Nat.blt k obs.length,obs,evs,[]⟩ with
  | none=>rw [hr] at hp; cases hp
  | some s =>
   rw [hr] at hp he
   cases s with
   | ended f=>cases hp
   | head c1 ks1 f1 =>
    obtain rfl:(c1,ks1)=p':=Option.some.inj hp
    obtain ⟨hg,hw⟩:=pieceE_parts ev he
    obtain ⟨_,_,r3⟩:=runP_ok hm _ _ _ _ _ hr ⟨fun k=>by dsimp only; rw [Nat.blt_eq],huq⟩
    refine calls_of_wp hf hb (r3 hg (B0:=bd0 w.heap.size obs.length) (w0:=w) (β:=β) ⟨⟨Keep.refl _ _,Nat.le_refl _,fun k o hk ho=>⟨hh k o ho,(Bool.and_eq_true _ _▸List.all_eq_true.1 hobs o (List.mem_of_getElem? ho)).1⟩,fun k hk=>hlt k (by simpa [Nat.blt_eq] using hk),fun k j hk _ _ hm=>?_,fun k _ hk hm=>?_,fun k hk hm=>?_,fun i hi=>by rw [Nat.blt_eq]; exact hi,fun k r D _ ho=>?_,fun k r D _ ho=>absurd ho (hnal k r D),fun k i _ hi _ hm=>by rw [Nat.blt_eq] at hi; omega⟩,fun k=>by dsimp only; rw [Nat.blt_eq],⟨?_,fun t=>?_⟩,fun t=>?_,⟨Nat.le_refl _,Nat.le_refl _⟩,rfl,huq⟩ _ fun β' a' w' e s=>?_)
    · rw [Nat.blt_eq] at hk; omega
    · rw [Nat.blt_eq] at hk; omega
    · rw [Nat.blt_eq] at hk; omega
    · exact absurd ho (hnal k r D)
    · simp [sizeS]
    · rw [look_start,if_pos (Nat.zero_le _),Nat.sub_zero]
      simp only [Array.getD_eq_getD_getElem?,Array.getElem?_append,List.size_toArray,List.length_map,List.getElem?_toArray,List.getElem?_map]
      split
      · rename_i hlt2
        rw [List.getElem?_eq_getElem hlt2]
        rfl
      · rename_i hge
        rw [List.getElem?_eq_none (by omega)]
        simp [Array.getElem?_replicate]
        split<;>rfl
    · dsimp only
      rw [look_start,if_pos (Nat.zero_le _),Nat.sub_zero]
      cases hx:args[t]? with
      | none=>rfl
      | some x=>exact List.all_eq_true.1 hargs x (List.mem_of_getElem? hx)
    · obtain ⟨β'',e2,s2⟩:=hw s
      exact hH β'' a' w' (fun k hk=>(e2 k hk).trans (e k hk)) s2
end Go.Proofs.YtmfedaakeeiolaaGreat.Y
end
section
namespace Go.Proofs.YtmfedaakeeiolaaGreat.Y
open Go Go.RowKit
set_option maxRecDepth 100000
theorem sq_nonneg (x:Rat):0≤x*x:=by
 by_cases h:0≤x
 · exact Rat.mul_nonneg h h
 · have:=Rat.mul_nonneg (a:=-x) (b:=-x) (by grind) (by grind)
   grind
theorem i21v:i21=2:=of_decide_eq_true (by kernel_rfl:decide (i21=2)=true)
theorem fpr_two (f g:RQ):2*fpr f g=2*(f.b.re*g.b.re+f.b.im*g.b.im)-(f.a*g.c+f.c*g.a):=by
 have h:(Rat.divInt 2 1:Rat)=2:=i21v
 unfold fpr
 rw [h]
 grind
section
variable {l k:RQ} (ha:l.a=0) (hn:cuN l≠0) {y:Rat} (hy:y≠0)
theorem inv_ne {y:Rat} (hy:y≠0):y⁻¹≠0:=by
 intro e
 have:=Rat.mul_inv_cancel y hy
 rw [e,Rat.mul_zero] at this
 exact absurd this (by decide)
end
section
variable {f g:RQ} (hf:MayC f) (hg:MayC g) (sf:RSz 60 f) (sg:RSz 60 g) (hs:eqRone f g=false) (hc:cmpQ (fsq f g) one1 = -1)
theorem mpNum_pos {x:Rat}:0<x.num↔0<x:=by
 have h1:0≤x.num↔0≤x:=Rat.num_nonneg
 have h2:x.num=0↔x=0:=Rat.num_eq_zero
 constructor
 · intro h
   have h3:=h1.1 (by omega)
   have h4:x≠0:=fun e=>by have:=h2.2 e; omega
   grind
 · intro h
   have h3:=h1.2 (by grind)
   have h4:x.num≠0:=fun e=>by have:=h2.1 e; grind
   omega
theorem may_pos {f:RQ} (hf:MayC f):0<fpr f f:=by
 have h:=of_decide_eq_false hf.pow
 rw [← rpow_fpr] at h
 have h2:0<(fpr f f).num:=by
  rcases Int.lt_trichotomy (fpr f f).num 0 with e | e | e
  · rw [Int.sign_eq_neg_one_of_neg e] at h; omega
  · rw [e] at h; exact absurd (by decide) h
  · exact e
 exact mpNum_pos.1 h2
end
def dtN (n:MQ):Rat:=gnorm (gsub (gmul n.a n.d) (gmul n.b n.c))
set_option maxHeartbeats 2000000 in
theorem im_fpr (r s:RQ) (n:MQ) (t:Bool):fpr (imQ r n t) (imQ s n t)=dtN n*fpr r s:=by
 have h1:=fpr_two (imQ r n t) (imQ s n t)
 have h2:=fpr_two r s
 have h:2*fpr (imQ r n t) (imQ s n t)=2*(dtN n*fpr r s):=by
  rw [h1,show 2*(dtN n*fpr r s)=dtN n*(2*fpr r s) by grind,h2]
  obtain ⟨ra,⟨rx,ry⟩,rc⟩:=r
  obtain ⟨sa,⟨sx,sy⟩,sc⟩:=s
  obtain ⟨⟨ax,ay⟩,⟨bx,by'⟩,⟨cx,cy⟩,⟨dx,dy⟩,nt⟩:=n
  clear h1 h2
  cases t
  · simp only [imQ,imF,imX,imB,dtN,gadd,gsub,gscale,gmul,gconj,gnorm,cond_false,cond_true]
    grind
  · simp only [imQ,imF,imX,imB,dtN,gadd,gsub,gscale,gmul,gconj,gnorm,cond_false,cond_true]
    grind
 grind
def mscale (n:MQ) (z:GQ):MQ:=⟨gmul n.a z,gmul n.b z,gmul n.c z,gmul n.d z,n.t⟩
theorem gdiv_mul (z w:GQ):gdiv z w=gmul z (gscale (gconj w) (gnorm w)⁻¹):=by
 unfold gdiv
 generalize (gnorm w)⁻¹=i
 unfold gscale gmul gconj
 refine GQ.ext2 ?_ ?_<;>(dsimp only; grind)
theorem gn_ne {w:GQ} (h:gzero w=false):gnorm w≠0:=by
 intro e
 have:=sq_sum (x:=w.re) (y:=w.im) e
 rw [gzero_iff.2 this] at h
 cases h
section
variable {r:RQ} (h:MayC r) (hr:RSz 14 r) {m:MQ} (hm:MSz 12 m) {b:Bool} (h0:gzero (bif b then (mconj (mundo0 m) m.t).d else (mconj (mundo0 m) m.t).c)=false)
abbrev imX0 (r:RQ) (m:MQ) (b:Bool):RQ:=imQ r (unQ m b) m.t
end
theorem dt_scale (n:MQ) (z:GQ):dtN (mscale n z)=dtN n*(gnorm z*gnorm z):=by
 obtain ⟨⟨ax,ay⟩,⟨bx,by'⟩,⟨cx,cy⟩,⟨dx,dy⟩,nt⟩:=n
 obtain ⟨zx,zy⟩:=z
 simp only [dtN,mscale,gsub,gmul,gnorm]
 grind
theorem dt_undo (m:MQ):dtN (mconj (mundo0 m) m.t)=gnorm (mdet m):=by
 obtain ⟨⟨ax,ay⟩,⟨bx,by'⟩,⟨cx,cy⟩,⟨dx,dy⟩,nt⟩:=m
 cases nt<;>(simp only [dtN,mconj,mundo0,mdet,gsub,gmul,gnorm,gneg,gconj,cond_true,cond_false]; grind)
theorem gn_pos {w:GQ} (h:gnorm w≠0):0<gnorm w:=by
 have h1:=sq_nonneg w.re
 have h2:=sq_nonneg w.im
 have:gnorm w=w.re*w.re+w.im*w.im:=rfl
 grind
theorem dt_un {m:MQ} {b:Bool} (hd:gzero (mdet m)=false) (h0:gzero (bif b then (mconj (mundo0 m) m.t).d else (mconj (mundo0 m) m.t).c)=false):0<dtN (unQ m b):=by
 have e:unQ m b=mscale (mconj (mundo0 m) m.t) (gscale (gconj (bif b then (mconj (mundo0 m) m.t).d else (mconj (mundo0 m) m.t).c)) (gnorm (bif b then (mconj (mundo0 m) m.t).d else (mconj (mundo0 m) m.t).c))⁻¹):=by
  unfold unQ mnormB
  simp only [gdiv_mul]
  rfl
 rw [e,dt_scale,dt_undo]
 have h1:=gn_ne h0
 have h2:gnorm (gscale (gconj (bif b then (mconj (mundo0 m) m.t).d else (mconj (mundo0 m) m.t).c)) (gnorm (bif b then (mconj (mundo0 m) m.t).d else (mconj (mundo0 m) m.t).c))⁻¹)≠0:=by
  generalize (bif b then (mconj (mundo0 m) m.t).d else (mconj (mundo0 m) m.t).c)=w at *
  have e:gnorm (gscale (gconj w) (gnorm w)⁻¹)=gnorm w*((gnorm w)⁻¹*(gnorm w)⁻¹):=by
   generalize (gnorm w)⁻¹=i
   unfold gnorm gscale gconj
   grind
  rw [e]
  exact mul_ne h1 (mul_ne (inv_ne h1) (inv_ne h1))
 have h3:=gn_pos h2
 exact Rat.mul_pos (gn_pos (gn_ne hd)) (Rat.mul_pos h3 h3)
theorem wt_pos {r:RQ} (h:0<fpr r r):wtB r=false:=by
 unfold wtB
 rw [← rpow_fpr,Int.sign_eq_one_of_pos (mpNum_pos.2 h)]
 rfl
section
variable {r:RQ} (h:MayC r) (hr:RSz 14 r) {m:MQ} (hm:MSz 12 m) (hd:gzero (mdet m)=false) {b:Bool} (h0:gzero (bif b then (mconj (mundo0 m) m.t).d else (mconj (mundo0 m) m.t).c)=false)
include h hd h0 in
theorem im_pos:0<fpr (imX0 r m b) (imX0 r m b):=by
 rw [show fpr (imX0 r m b) (imX0 r m b)=fpr (imQ r (unQ m b) m.t) (imQ r (unQ m b) m.t) from rfl,im_fpr]
 exact Rat.mul_pos (dt_un hd h0) (may_pos h)
end
def imR (r:RQ) (m:MQ):RQ:=rone (imQ r (minv m) m.t)
inductive T1 where
 | lo
 | mid
 | hi
def T1.at (s:ByteArray):T1→Prop
 | .lo=>decide ((100:Int)<(s.size:Int))=false
 | .mid=>decide ((100:Int)<(s.size:Int))=true∧decide ((s.size:Int)≤1024)=true
 | .hi=>decide ((100:Int)<(s.size:Int))=true∧decide ((s.size:Int)≤1024)=false
def T1.yes:T1→Bool
 | .mid=>true
 | _=>false
theorem T1.all (s:ByteArray):∃ k:T1,k.at s:=by
 cases h:decide ((100:Int)<(s.size:Int)) with
 | false=>exact ⟨.lo,h⟩
 | true=>cases h2:decide ((s.size:Int)≤1024) with
  | true=>exact ⟨.mid,h,h2⟩
  | false=>exact ⟨.hi,h,h2⟩
theorem bl_lit {b r:Bool} (h:b=r):Value.bool b=.bool r:=by rw [h]
def yT1 (d1 d2:Nat) (s:ByteArray):(k:T1)→k.at s→List (Ev Tryz.prog)
 | .lo,h=>[.eqv d1 (.bool (decide ((100:Int)<(s.size:Int)))) (.bool false) (bl_lit h)]
 | .mid,h=>[.eqv d1 (.bool (decide ((100:Int)<(s.size:Int)))) (.bool true) (bl_lit h.1),.eqv d2 (.bool (decide ((s.size:Int)≤1024))) (.bool true) (bl_lit h.2)]
 | .hi,h=>[.eqv d1 (.bool (decide ((100:Int)<(s.size:Int)))) (.bool true) (bl_lit h.1),.eqv d2 (.bool (decide ((s.size:Int)≤1024))) (.bool false) (bl_lit h.2)]
def Lg1 (x:R4) (r:Bool):Prop:=∃ a b:T1,a.at x.s∧b.at x.t∧(a.yes||b.yes)=r
theorem Lg1.all (x:R4):∃ r,Lg1 x r:=by
 obtain ⟨a,ha⟩:=T1.all x.s
 obtain ⟨b,hb⟩:=T1.all x.t
 exact ⟨_,a,b,ha,hb,rfl⟩
def sLongF (x:R4) {r:Bool} (h:Lg1 x r):Spec Tryz.prog :=
 ⟨208,Tryz.call208,[.one (.a (rL x))],[],tB' r,[],fun β w hh=>by
  obtain ⟨a,b,ha,hb,rfl⟩:=h
  cases a with
  | mid=>exact spec_auto (evs:=yT1 7 13 x.s .mid ha) (Ns:=[]) (m:=400) Tryz.func208 hmA (fun β=>by kernel_rfl) (by kernel_rfl) β w hh
  | lo=>cases b<;>exact spec_auto (evs:=yT1 7 13 x.s .lo ha++yT1 20 26 x.t _ hb) (Ns:=[]) (m:=400) Tryz.func208 hmA (fun β=>by kernel_rfl) (by kernel_rfl) β w hh
  | hi=>cases b<;>exact spec_auto (evs:=yT1 7 13 x.s .hi ha++yT1 20 26 x.t _ hb) (Ns:=[]) (m:=400) Tryz.func208 hmA (fun β=>by kernel_rfl) (by kernel_rfl) β w hh,by kernel_rfl⟩
theorem long1_ok {x0 y0:R4} {rx0 ry0:Bool} (hx0:Lg1 x0 rx0) (hy0:Lg1 y0 ry0) (β:Env) (w:World) (hh:(Ob.box (rL x0++rL y0) 37).holds β w (β 0)) :
  Calls Tryz.prog 79 (([.one (.c (.b (.s 0 0 1 1)))]:List SV).map (SV.den β)).toArray w fun e w'=>e=.returned (.bool (rx0||ry0))∧Below w.heap.size w w':=by
 cases rx0 with
 | true=>exact bspec_ok [(sLongF x0 hx0).e] [] 1200 Tryz.func79 hmA (fun β=>by kernel_rfl) (by kernel_rfl) (fun β=>rfl) β w hh
 | false =>
 cases ry0 with
 | true=>exact bspec_ok [(sLongF x0 hx0).e,(sLongF y0 hy0).e] [] 1200 Tryz.func79 hmA (fun β=>by kernel_rfl) (by kernel_rfl) (fun β=>rfl) β w hh
 | false =>
 exact bspec_ok [(sLongF x0 hx0).e,(sLongF y0 hy0).e] [] 1200 Tryz.func79 hmA (fun β=>by kernel_rfl) (by kernel_rfl) (fun β=>rfl) β w hh
def sLongG1 {x0 y0:R4} {rx0 ry0:Bool} (hx0:Lg1 x0 rx0) (hy0:Lg1 y0 ry0) {r:Bool} (h:(rx0||ry0)=r):BSpec Tryz.prog :=
 ⟨79,Tryz.call79,[.one (.c (.b (.s 0 0 1 1)))],rL x0++rL y0,37,.bool r,fun β w hh=>by rw [← h]; exact long1_ok hx0 hy0 β w hh,by kernel_rfl,fun _=>rfl⟩
end Go.Proofs.YtmfedaakeeiolaaGreat.Y
end
section
namespace Go.Proofs.YtmfedaakeeiolaaGreat
open Go Go.RowKit
set_option maxRecDepth 100000
end Go.Proofs.YtmfedaakeeiolaaGreat
namespace Go.Proofs.YtmfedaakeeiolaaGreat.Y
open Go Go.RowKit
set_option maxRecDepth 100000
abbrev MOB:TypeId:=39
section
variable {m q:MQ} (hm:MayQ m) (hq:MayQ q)
include hm hq
end
end Go.Proofs.YtmfedaakeeiolaaGreat.Y
end
section
namespace Go.Proofs.YtmfedaakeeiolaaGreat.Y
open Go Go.RowKit
set_option maxRecDepth 100000
theorem mw_sub0 {z w:GQ}:gzero (gsub z w)=true↔z=w:=by
 rw [gzero_iff]
 constructor
 · rintro ⟨h1,h2⟩
   simp only [gsub] at h1 h2
   exact GQ.ext2 (by grind) (by grind)
 · rintro rfl
   simp only [gsub]
   exact ⟨by grind,by grind⟩
abbrev mgL (a b c d:Gn) (t:Bool):List Lf:=rL a.x++rL a.y++rL b.x++rL b.y++rL c.x++rL c.y++rL d.x++rL d.y++[.b (.v (.bool t))]
abbrev mgS (a b c d:Gn) (t:Bool):SV:=.one (.a (mgL a b c d t))
def gB (z w:GQ):Bool:=(fR z.re).eq (fR w.re)&&((fR z.im).eq (fR w.im)&&true)
theorem gB_iff {z w:GQ}:gB z w=true↔z=w:=by
 unfold gB
 simp only [Bool.and_true,Bool.and_eq_true,R4.eq_iff]
 constructor
 · rintro ⟨h1,h2⟩
   exact GQ.ext2 (fR_inj h1) (fR_inj h2)
 · rintro rfl
   exact ⟨rfl,rfl⟩
def gEq (z w:GQ) {r:Bool} (h:gB z w=r):Ev Tryz.prog:=eqEvG (fR z.re) (fR z.im) (fR w.re) (fR w.im) r h
abbrev g1':GQ:=gint 1 0
abbrev g0':GQ:=gint 0 0
def CkV (a b c d:Gn) (t:Bool) (k:Int):Prop:=∀ (β:Env) (w:World),Calls Tryz.prog 26 (([mgS a b c d t]:List SV).map (SV.den β)).toArray w fun e w'=>∃ xs:List Pl,freshS β w 0 xs∧e=.returned ((SV.one (nI' k)).den (extE β 0 xs))∧newHold w' [] xs∧Below w.heap.size w w'
def sR8Ck {a b c d:Gn} {t:Bool} {k:Int} (h:CkV a b c d t k):Spec Tryz.prog :=
 ⟨26,Tryz.call26,[mgS a b c d t],[],.one (nI' k),[],fun β w _=>h β w,by kernel_rfl⟩
theorem mw_no (β:Env) (w:World):∀ (k:Nat) (t:Thing),([]:List Thing)[k]?=some t→t.D w (β k):=fun k t h=>by simp at h
theorem ck_no {a b c d:Gn} {t:Bool} (h:(a.B&&(b.B&&(c.B&&d.B)))=false):CkV a b c d t 2:=fun β w=>by
 cases h1:a.B with
 | false=>exact spec_auto (args:=[mgS a b c d t]) (obs:=[]) (res:=.one (nI' 2)) (news:=[]) (evs:=[(sR4MayG a h1).e]) (Ns:=[(3,21)]) (m:=800) Tryz.func26 hmA (fun β=>by kernel_rfl) (by kernel_rfl) β w (mw_no β w)
 | true=>cases h2:b.B with
  | false=>exact spec_auto (args:=[mgS a b c d t]) (obs:=[]) (res:=.one (nI' 2)) (news:=[]) (evs:=[(sR4MayG a h1).e,(sR4MayG b h2).e]) (Ns:=[(3,21)]) (m:=800) Tryz.func26 hmA (fun β=>by kernel_rfl) (by kernel_rfl) β w (mw_no β w)
  | true=>cases h3:c.B with
   | false=>exact spec_auto (args:=[mgS a b c d t]) (obs:=[]) (res:=.one (nI' 2)) (news:=[]) (evs:=[(sR4MayG a h1).e,(sR4MayG b h2).e,(sR4MayG c h3).e]) (Ns:=[(3,21)]) (m:=800) Tryz.func26 hmA (fun β=>by kernel_rfl) (by kernel_rfl) β w (mw_no β w)
   | true=>cases h4:d.B with
    | false=>exact spec_auto (args:=[mgS a b c d t]) (obs:=[]) (res:=.one (nI' 2)) (news:=[]) (evs:=[(sR4MayG a h1).e,(sR4MayG b h2).e,(sR4MayG c h3).e,(sR4MayG d h4).e]) (Ns:=[(3,21)]) (m:=800) Tryz.func26 hmA (fun β=>by kernel_rfl) (by kernel_rfl) β w (mw_no β w)
    | true=>rw [h1,h2,h3,h4] at h; cases h
section
variable (q:MQ) (h:FitM q)
abbrev ckGs (q:MQ) (h:FitM q) (k:Int):Prop:=CkV (.ok q.a h.1) (.ok q.b h.2.1) (.ok q.c h.2.2.1) (.ok q.d h.2.2.2) q.t k
noncomputable def ckM:List (Ev Tryz.prog):=[(sR4MayG (.ok q.a h.1) rfl).e,(sR4MayG (.ok q.b h.2.1) rfl).e,(sR4MayG (.ok q.c h.2.2.1) rfl).e,(sR4MayG (.ok q.d h.2.2.2) rfl).e,sR8unit.e]
theorem ckq_sz {q:MQ} (h:FitM q):MSz KD q:=⟨h.1.gsz.mono (by decide),h.2.1.gsz.mono (by decide),h.2.2.1.gsz.mono (by decide),h.2.2.2.gsz.mono (by decide)⟩
noncomputable def ckZ {b:Bool} (hd:gzero (mdet q)=b):List (Ev Tryz.prog):=[(sR8Det (ckq_sz h)).e,(sR4Zero (mdet q) hd).e]
theorem ck_q:(MayQ q∧ckGs q h 0)∨ckGs q h 2:=by
 cases r1:gB q.c g1' with
 | true =>
  cases hd:gzero (mdet q) with
  | false =>
   refine .inl ⟨⟨h,hd,.inl (mw_sub0.2 (gB_iff.1 r1))⟩,fun β w=>?_⟩
   exact spec_auto (evs:=ckM q h++[gEq q.c g1' r1]++ckZ q h hd) (Ns:=[(3,21)]) (m:=800) Tryz.func26 hmA (fun β=>by kernel_rfl) (by kernel_rfl) β w (mw_no β w)
  | true =>
   refine .inr fun β w=>?_
   exact spec_auto (evs:=ckM q h++[gEq q.c g1' r1]++ckZ q h hd) (Ns:=[(3,21)]) (m:=800) Tryz.func26 hmA (fun β=>by kernel_rfl) (by kernel_rfl) β w (mw_no β w)
 | false =>
  cases r2:gB q.c g0' with
  | false =>
   refine .inr fun β w=>?_
   exact spec_auto (evs:=ckM q h++[gEq q.c g1' r1,sR8zero.e,gEq q.c g0' r2]) (Ns:=[(3,21)]) (m:=800) Tryz.func26 hmA (fun β=>by kernel_rfl) (by kernel_rfl) β w (mw_no β w)
  | true =>
   cases r3:gB q.d g1' with
   | false =>
    refine .inr fun β w=>?_
    exact spec_auto (evs:=ckM q h++[gEq q.c g1' r1,sR8zero.e,gEq q.c g0' r2,sR8unit.e,gEq q.d g1' r3]) (Ns:=[(3,21)]) (m:=800) Tryz.func26 hmA (fun β=>by kernel_rfl) (by kernel_rfl) β w (mw_no β w)
   | true =>
    cases hd:gzero (mdet q) with
    | false =>
     have z0:gzero q.c=true:=by rw [gB_iff.1 r2]; rfl
     refine .inl ⟨⟨h,hd,.inr ⟨z0,mw_sub0.2 (gB_iff.1 r3)⟩⟩,fun β w=>?_⟩
     exact spec_auto (evs:=ckM q h++[gEq q.c g1' r1,sR8zero.e,gEq q.c g0' r2,sR8unit.e,gEq q.d g1' r3]++ckZ q h hd) (Ns:=[(3,21)]) (m:=800) Tryz.func26 hmA (fun β=>by kernel_rfl) (by kernel_rfl) β w (mw_no β w)
    | true =>
     refine .inr fun β w=>?_
     exact spec_auto (evs:=ckM q h++[gEq q.c g1' r1,sR8zero.e,gEq q.c g0' r2,sR8unit.e,gEq q.d g1' r3]++ckZ q h hd) (Ns:=[(3,21)]) (m:=800) Tryz.func26 hmA (fun β=>by kernel_rfl) (by kernel_rfl) β w (mw_no β w)
end
theorem long4_ok {x0 y0 x1 y1 x2 y2 x3 y3:R4} {rx0 ry0 rx1 ry1 rx2 ry2 rx3 ry3:Bool} (hx0:Lg1 x0 rx0) (hy0:Lg1 y0 ry0) (hx1:Lg1 x1 rx1) (hy1:Lg1 y1 ry1) (hx2:Lg1 x2 rx2) (hy2:Lg1 y2 ry2) (hx3:Lg1 x3 rx3) (hy3:Lg1 y3 ry3) (β:Env) (w:World) (hh:(Ob.box (rL x0++rL y0++rL x1++rL y1++rL x2++rL y2++rL x3++rL y3) 37).holds β w (β 0)) :
  Calls Tryz.prog 79 (([.one (.c (.b (.s 0 0 4 4)))]:List SV).map (SV.den β)).toArray w fun e w'=>e=.returned (.bool (rx0||(ry0||(rx1||(ry1||(rx2||(ry2||(rx3||ry3))))))))∧Below w.heap.size w w':=by
 cases rx0 with
 | true=>exact bspec_ok [(sLongF x0 hx0).e] [] 1600 Tryz.func79 hmA (fun β=>by kernel_rfl) (by kernel_rfl) (fun β=>rfl) β w hh
 | false =>
 cases ry0 with
 | true=>exact bspec_ok [(sLongF x0 hx0).e,(sLongF y0 hy0).e] [] 1600 Tryz.func79 hmA (fun β=>by kernel_rfl) (by kernel_rfl) (fun β=>rfl) β w hh
 | false =>
 cases rx1 with
 | true=>exact bspec_ok [(sLongF x0 hx0).e,(sLongF y0 hy0).e,(sLongF x1 hx1).e] [] 1600 Tryz.func79 hmA (fun β=>by kernel_rfl) (by kernel_rfl) (fun β=>rfl) β w hh
 | false =>
 cases ry1 with
 | true=>exact bspec_ok [(sLongF x0 hx0).e,(sLongF y0 hy0).e,(sLongF x1 hx1).e,(sLongF y1 hy1).e] [] 1600 Tryz.func79 hmA (fun β=>by kernel_rfl) (by kernel_rfl) (fun β=>rfl) β w hh
 | false =>
 cases rx2 with
 | true=>exact bspec_ok [(sLongF x0 hx0).e,(sLongF y0 hy0).e,(sLongF x1 hx1).e,(sLongF y1 hy1).e,(sLongF x2 hx2).e] [] 1600 Tryz.func79 hmA (fun β=>by kernel_rfl) (by kernel_rfl) (fun β=>rfl) β w hh
 | false =>
 cases ry2 with
 | true=>exact bspec_ok [(sLongF x0 hx0).e,(sLongF y0 hy0).e,(sLongF x1 hx1).e,(sLongF y1 hy1).e,(sLongF x2 hx2).e,(sLongF y2 hy2).e] [] 1600 Tryz.func79 hmA (fun β=>by kernel_rfl) (by kernel_rfl) (fun β=>rfl) β w hh
 | false =>
 cases rx3 with
 | true=>exact bspec_ok [(sLongF x0 hx0).e,(sLongF y0 hy0).e,(sLongF x1 hx1).e,(sLongF y1 hy1).e,(sLongF x2 hx2).e,(sLongF y2 hy2).e,(sLongF x3 hx3).e] [] 1600 Tryz.func79 hmA (fun β=>by kernel_rfl) (by kernel_rfl) (fun β=>rfl) β w hh
 | false =>
 cases ry3 with
 | true=>exact bspec_ok [(sLongF x0 hx0).e,(sLongF y0 hy0).e,(sLongF x1 hx1).e,(sLongF y1 hy1).e,(sLongF x2 hx2).e,(sLongF y2 hy2).e,(sLongF x3 hx3).e,(sLongF y3 hy3).e] [] 1600 Tryz.func79 hmA (fun β=>by kernel_rfl) (by kernel_rfl) (fun β=>rfl) β w hh
 | false =>
 exact bspec_ok [(sLongF x0 hx0).e,(sLongF y0 hy0).e,(sLongF x1 hx1).e,(sLongF y1 hy1).e,(sLongF x2 hx2).e,(sLongF y2 hy2).e,(sLongF x3 hx3).e,(sLongF y3 hy3).e] [] 1600 Tryz.func79 hmA (fun β=>by kernel_rfl) (by kernel_rfl) (fun β=>rfl) β w hh
def sLongG4 {x0 y0 x1 y1 x2 y2 x3 y3:R4} {rx0 ry0 rx1 ry1 rx2 ry2 rx3 ry3:Bool} (hx0:Lg1 x0 rx0) (hy0:Lg1 y0 ry0) (hx1:Lg1 x1 rx1) (hy1:Lg1 y1 ry1) (hx2:Lg1 x2 rx2) (hy2:Lg1 y2 ry2) (hx3:Lg1 x3 rx3) (hy3:Lg1 y3 ry3) {r:Bool} (h:(rx0||(ry0||(rx1||(ry1||(rx2||(ry2||(rx3||ry3)))))))=r):BSpec Tryz.prog :=
 ⟨79,Tryz.call79,[.one (.c (.b (.s 0 0 4 4)))],rL x0++rL y0++rL x1++rL y1++rL x2++rL y2++rL x3++rL y3,37,.bool r,fun β w hh=>by rw [← h]; exact long4_ok hx0 hy0 hx1 hy1 hx2 hy2 hx3 hy3 β w hh,by kernel_rfl,fun _=>rfl⟩
abbrev cbM (x0 y0 x1 y1 x2 y2 x3 y3:R4) (t:Bool):List Lf:=rL x0++rL y0++rL x1++rL y1++rL x2++rL y2++rL x3++rL y3++[.b (.v (.bool t))]
def CbFar (x0 y0 x1 y1 x2 y2 x3 y3:R4) (r:Bool):Prop:=∃ rx0 ry0 rx1 ry1 rx2 ry2 rx3 ry3:Bool,Lg1 x0 rx0∧Lg1 y0 ry0∧Lg1 x1 rx1∧Lg1 y1 ry1∧Lg1 x2 rx2∧Lg1 y2 ry2∧Lg1 x3 rx3∧Lg1 y3 ry3∧(rx0||(ry0||(rx1||(ry1||(rx2||(ry2||(rx3||ry3)))))))=r
theorem CbFar.all (x0 y0 x1 y1 x2 y2 x3 y3:R4):∃ r,CbFar x0 y0 x1 y1 x2 y2 x3 y3 r:=by
 obtain ⟨rx0,hx0⟩:=Lg1.all x0
 obtain ⟨ry0,hy0⟩:=Lg1.all y0
 obtain ⟨rx1,hx1⟩:=Lg1.all x1
 obtain ⟨ry1,hy1⟩:=Lg1.all y1
 obtain ⟨rx2,hx2⟩:=Lg1.all x2
 obtain ⟨ry2,hy2⟩:=Lg1.all y2
 obtain ⟨rx3,hx3⟩:=Lg1.all x3
 obtain ⟨ry3,hy3⟩:=Lg1.all y3
 exact ⟨_,rx0,ry0,rx1,ry1,rx2,ry2,rx3,ry3,hx0,hy0,hx1,hy1,hx2,hy2,hx3,hy3,rfl⟩
def sFar11 (x0 y0 x1 y1 x2 y2 x3 y3:R4) (t:Bool) {r:Bool} (h:CbFar x0 y0 x1 y1 x2 y2 x3 y3 r):Spec Tryz.prog :=
 ⟨93,Tryz.call93,[.one (.a (cbM x0 y0 x1 y1 x2 y2 x3 y3 t))],[],tB' r,[],fun β w hh=>by
  obtain ⟨rx0,ry0,rx1,ry1,rx2,ry2,rx3,ry3,hx0,hy0,hx1,hy1,hx2,hy2,hx3,hy3,hr⟩:=h
  exact spec_auto (evs:=[(sLongG4 hx0 hy0 hx1 hy1 hx2 hy2 hx3 hy3 hr).e]) (Ns:=[]) (m:=400) Tryz.func93 hmA (fun β=>by kernel_rfl) (by kernel_rfl) β w hh,by kernel_rfl⟩
abbrev cbC (a b b' c:R4):List Lf:=rL a++(rL b++rL b')++rL c
def CbWide (a b b' c:R4) (r:Bool):Prop:=∃ ra rb rb' rc:Bool,Lg1 a ra∧Lg1 b rb∧Lg1 b' rb'∧Lg1 c rc∧(ra||((rb||rb')||rc))=r
theorem CbWide.all (a b b' c:R4):∃ r,CbWide a b b' c r:=by
 obtain ⟨ra,ha⟩:=Lg1.all a
 obtain ⟨rb,hb⟩:=Lg1.all b
 obtain ⟨rb',hb'⟩:=Lg1.all b'
 obtain ⟨rc,hc⟩:=Lg1.all c
 exact ⟨_,ra,rb,rb',rc,ha,hb,hb',hc,rfl⟩
theorem fitC_1024 {r:RQ} (h:FitC r):RSz 1024 r:=⟨h.1.sz,h.2.1.gsz,h.2.2.sz⟩
section
variable {r:RQ} (h:MayC r) {m:MQ} (hm:MayQ m)
abbrev cbB (m:MQ):Bool:=gzero (mconj (mundo0 m) m.t).c
theorem cb_h0 (hm:MayQ m):gzero (bif cbB m then (mconj (mundo0 m) m.t).d else (mconj (mundo0 m) m.t).c)=false:=(minv_reg hm.reg).b0
theorem cb_pos (h:MayC r) (hm:MayQ m):0<fpr (imX0 r m (cbB m)) (imX0 r m (cbB m)):=im_pos h hm.2.1 (cb_h0 hm)
theorem cb_rby (h:MayC r) (hm:MayQ m):rby (imX0 r m (cbB m))≠0:=rby_ne (wt_pos (cb_pos h hm))
noncomputable def sImgG:Spec Tryz.prog :=
 ⟨220,Tryz.call220,[mV 0 m,rgV 8],mT m++rgT r,rgV 12,rgT (rone (imX0 r m (cbB m))),image_ok ((fitC_1024 h.fit).mono (by decide)) (fitM_sz hm.1) rfl (cb_h0 hm) (cb_rby h hm),by kernel_rfl⟩
theorem cb_sz (h:MayC r) (hm:MayQ m):RSz KC (rone (imX0 r m (cbB m))) :=
 (rnm_sz (imQ_sz ((fitC_1024 h.fit).mono (by decide)) (un_sz (fitM_sz hm.1) (cb_h0 hm)) m.t) (rby_sz (imQ_sz ((fitC_1024 h.fit).mono (by decide)) (un_sz (fitM_sz hm.1) (cb_h0 hm)) m.t) _ _) (cb_rby h hm)).mono (by decide)
noncomputable def sCbTold:Spec Tryz.prog:=(sRTold (r:=rone (imX0 r m (cbB m))) (cb_sz h hm) rfl rfl (by
 have:rby (rone (imX0 r m (cbB m)))≠0:=by rw [rby_one (cb_rby h hm)]; decide
 exact this)).conv (ciA (imR r m)) (by
  show ciA (rone (rone (imX0 r m (cbB m))))=_
  rw [rone_rone (cb_rby h hm)]
  rfl)
noncomputable def sCbImg:Spec Tryz.prog :=
 Spec.auto Tryz.call96 [.one (.a (mCl m)),.one (.a (cC r))] [] (ciA (imR r m)) [] [(sOpenYes hm).e,(sWheel h).e,(sImgG h hm).e,(sCbTold h hm).e] [] 800 Tryz.func96 hmA (by kernel_rfl) (fun β=>by kernel_rfl)
end
theorem cx_0:(Rat.divInt 0 1:Rat)=0:=of_decide_eq_true (by kernel_rfl:decide ((Rat.divInt 0 1:Rat)=0)=true)
def cxG (x:Rat):GQ:=⟨x,Rat.divInt 0 1⟩
def cxF (r:RQ) (v w:GQ):Rat:=(r.a*gnorm v+r.c*gnorm w)+((gmul (gmul r.b v) (gconj w)).re+(gmul (gmul r.b v) (gconj w)).re)
def cxB (r:RQ) (n:MQ):GQ:=gadd (gadd (gadd (gmul (cxG r.a) (gmul n.a (gconj n.b))) (gmul (gmul r.b n.a) (gconj n.d))) (gmul (gconj (gmul r.b n.b)) n.c)) (gmul (cxG r.c) (gmul n.c (gconj n.d)))
def cxQ (r:RQ) (n:MQ) (t:Bool):RQ:=⟨cxF r n.a n.c,bif t then gconj (cxB r n) else cxB r n,cxF r n.b n.d⟩
theorem cxF_eq (r:RQ) (v w:GQ):cxF r v w=imF r v w:=by
 unfold cxF imF imX
 grind
theorem cxB_eq (r:RQ) (n:MQ):cxB r n=imB r n.a n.b n.c n.d:=by
 unfold cxB imB
 have e:∀ (x:Rat) (z:GQ),gmul (cxG x) z=gscale z x:=fun x z=>by
  unfold cxG
  rw [cx_0]
  simp only [gmul,gscale]
  congr 1<;>grind
 rw [e,e]
theorem cxQ_eq (r:RQ) (n:MQ) (t:Bool):cxQ r n t=imQ r n t:=by
 unfold cxQ imQ
 rw [cxF_eq,cxF_eq,cxB_eq]
section
variable {r:RQ} (h:RSz KR r) {n:MQ} (hn:MSz KV n)
theorem cxG_sz {k:Nat} {x:Rat} (h:Sz k x) (hk:1≤k):GSz k (cxG x):=⟨h,by
 show Sz k (Rat.divInt 0 1)
 rw [cx_0]
 exact sz_zero.mono hk⟩
include h hn in
theorem cxF_sz1:Sz 100000 (r.a*gnorm n.a+r.c*gnorm n.c)∧Sz 100000 (r.a*gnorm n.b+r.c*gnorm n.d):=⟨((h.a.mul (nv_sz hn.a)).add (h.c.mul (nv_sz hn.c))).mono (by decide),((h.a.mul (nv_sz hn.b)).add (h.c.mul (nv_sz hn.d))).mono (by decide)⟩
include h hn in
theorem cxX_sz:Sz 200000 ((gmul (gmul r.b n.a) (gconj n.c)).re+(gmul (gmul r.b n.a) (gconj n.c)).re)∧Sz 200000 ((gmul (gmul r.b n.b) (gconj n.d)).re+(gmul (gmul r.b n.b) (gconj n.d)).re):=⟨((bvw_sz h hn.a hn.c).1.add (bvw_sz h hn.a hn.c).1).mono (by decide),((bvw_sz h hn.b hn.d).1.add (bvw_sz h hn.b hn.d).1).mono (by decide)⟩
include h hn in
theorem cxS_sz:GSz 130000 (gmul (cxG r.a) (gmul n.a (gconj n.b)))∧GSz 130000 (gmul (cxG r.c) (gmul n.c (gconj n.d))) :=
 ⟨((cxG_sz h.a (by decide)).mul (imS_sz h hn).1.1).mono (by decide),((cxG_sz h.c (by decide)).mul (imS_sz h hn).2.1).mono (by decide)⟩
include h hn in
theorem cxT_sz:GSz 220000 (gadd (gmul (cxG r.a) (gmul n.a (gconj n.b))) (gmul (gmul r.b n.a) (gconj n.d)))∧GSz 300000 (gadd (gadd (gmul (cxG r.a) (gmul n.a (gconj n.b))) (gmul (gmul r.b n.a) (gconj n.d))) (gmul (gconj (gmul r.b n.b)) n.c)):=by
 have e:GSz 220000 (gadd (gmul (cxG r.a) (gmul n.a (gconj n.b))) (gmul (gmul r.b n.a) (gconj n.d))):=((cxS_sz h hn).1.add (bvw_sz h hn.a hn.d)).mono (by decide)
 exact ⟨e,(e.add (imT_sz h hn).2.1).mono (by decide)⟩
include h hn in
theorem cxQ_sz (t:Bool):RSz KC (cxQ r n t):=by
 rw [cxQ_eq]
 exact (imQ_sz h hn t).mono (by decide)
noncomputable def cxE1:List (Ev Tryz.prog) :=
 [(sR4Conj n.b).e,(sR4Conj n.c).e,(sR4Conj n.d).e,(sR4Times (h.b.mono (by decide)) (hn.a.mono (by decide))).e,(sR4Times (h.b.mono (by decide)) (hn.b.mono (by decide))).e,
  (sR4Norm (hn.a.mono (by decide))).e,(sR3Times (h.a.mono (by decide)) ((nv_sz hn.a).mono (by decide))).e,(sR4Norm (hn.c.mono (by decide))).e,(sR3Times (h.c.mono (by decide)) ((nv_sz hn.c).mono (by decide))).e,(sR3Plus ((h.a.mul (nv_sz hn.a)).mono (by decide)) ((h.c.mul (nv_sz hn.c)).mono (by decide))).e,
  (sR4Times ((bv_sz h hn.a).mono (by decide)) (hn.c.conj.mono (by decide))).e,(sCTwice ((bvw_sz h hn.a hn.c).1.mono (by decide))).e,(sR3Plus ((cxF_sz1 h hn).1.mono (by decide)) ((cxX_sz h hn).1.mono (by decide))).e,
  (sR4Norm (hn.b.mono (by decide))).e,(sR3Times (h.a.mono (by decide)) ((nv_sz hn.b).mono (by decide))).e,(sR4Norm (hn.d.mono (by decide))).e,(sR3Times (h.c.mono (by decide)) ((nv_sz hn.d).mono (by decide))).e,(sR3Plus ((h.a.mul (nv_sz hn.b)).mono (by decide)) ((h.c.mul (nv_sz hn.d)).mono (by decide))).e,
  (sR4Times ((bv_sz h hn.b).mono (by decide)) (hn.d.conj.mono (by decide))).e,(sCTwice ((bvw_sz h hn.b hn.d).1.mono (by decide))).e,(sR3Plus ((cxF_sz1 h hn).2.mono (by decide)) ((cxX_sz h hn).2.mono (by decide))).e,
  (sR3Int 0 (by decide)).e,(sR3Int 0 (by decide)).e,
  (sR4Times (hn.a.mono (by decide)) (hn.b.conj.mono (by decide))).e,(sR4Times (z:=cxG r.a) ((cxG_sz h.a (by decide)).mono (by decide)) ((imS_sz h hn).1.1.mono (by decide))).e,(sR4Times ((bv_sz h hn.a).mono (by decide)) (hn.d.conj.mono (by decide))).e,(sR4Plus ((cxS_sz h hn).1.mono (by decide)) ((bvw_sz h hn.a hn.d).mono (by decide))).e,
  (sR4Conj (gmul r.b n.b)).e,(sR4Times ((bv_sz h hn.b).conj.mono (by decide)) (hn.c.mono (by decide))).e,(sR4Plus ((cxT_sz h hn).1.mono (by decide)) ((imT_sz h hn).2.1.mono (by decide))).e,
  (sR4Times (hn.c.mono (by decide)) (hn.d.conj.mono (by decide))).e,(sR4Times (z:=cxG r.c) ((cxG_sz h.c (by decide)).mono (by decide)) ((imS_sz h hn).2.1.mono (by decide))).e,(sR4Plus ((cxT_sz h hn).2.mono (by decide)) ((cxS_sz h hn).2.mono (by decide))).e]
end
abbrev cxNs:List (Nat × Nat):=[(2,7014006013005012015),(3,9),(4,10),(5,12),(6,7),(7,12),(8,7),(9,5),(10,5),(11,10),(12,6),(13,7)]
section
variable {r:RQ} (h:MayC r) {m:MQ} (hm:MayQ m)
include h hm in
theorem cx_pow:decide ((rpow (cxQ r (unQ m (cbB m)) m.t)).num.sign≤0)=false:=by
 rw [cxQ_eq]
 exact wt_pos (cb_pos h hm)
include h hm in
theorem cx_img (β:Env) (w:World):Calls Tryz.prog 97 (([.one (.a (mCl m)),.one (.a (cC r))]:List SV).map (SV.den β)).toArray w fun e w'=>∃ xs:List Pl,freshS β w 0 xs∧e=.returned ((SV.one (.a (cC (rone (cxQ r (unQ m (cbB m)) m.t))))).den (extE β 0 xs))∧newHold w' [] xs∧Below w.heap.size w w':=by
 have hr:RSz KR r:=(fitC_1024 h.fit).mono (by decide)
 have hn:MSz KV (unQ m (cbB m)):=un_sz (fitM_sz hm.1) (cb_h0 hm)
 have hp:=cx_pow h hm
 have hM:MSz Go.Proofs.YtmfedaakeeiolaaGreat.KE m:=⟨hm.1.1.gsz.mono (by decide),hm.1.2.1.gsz.mono (by decide),hm.1.2.2.1.gsz.mono (by decide),hm.1.2.2.2.gsz.mono (by decide)⟩
 have h0:=cb_h0 hm
 obtain ⟨a,b,c,d,t⟩:=m
 have hI:=(sR8Inverse hM (f:=cbB ⟨a,b,c,d,t⟩) rfl h0)
 cases t
 · exact spec_auto (obs:=[]) (news:=[]) (args:=[.one (.a (mCl ⟨a,b,c,d,false⟩)),.one (.a (cC r))]) (res:=.one (.a (cC (rone (cxQ r (unQ ⟨a,b,c,d,false⟩ (cbB ⟨a,b,c,d,false⟩)) false))))) (evs:=[(sR8Inverse hM (f:=cbB ⟨a,b,c,d,false⟩) rfl h0).e]++cxE1 hr hn++[(sCNorm1 (cxQ_sz hr hn false) hp).e]) (Ns:=cxNs) (m:=1200) Tryz.func97 hmA (fun β=>by kernel_rfl) (by kernel_rfl) β w (fun k t h=>by simp at h)
 · exact spec_auto (obs:=[]) (news:=[]) (args:=[.one (.a (mCl ⟨a,b,c,d,true⟩)),.one (.a (cC r))]) (res:=.one (.a (cC (rone (cxQ r (unQ ⟨a,b,c,d,true⟩ (cbB ⟨a,b,c,d,true⟩)) true))))) (evs:=[(sR8Inverse hM (f:=cbB ⟨a,b,c,d,true⟩) rfl h0).e]++cxE1 hr hn++[(sR4Conj (cxB r (unQ ⟨a,b,c,d,true⟩ (cbB ⟨a,b,c,d,true⟩)))).e,(sCNorm1 (cxQ_sz hr hn true) hp).e]) (Ns:=cxNs) (m:=1200) Tryz.func97 hmA (fun β=>by kernel_rfl) (by kernel_rfl) β w (fun k t h=>by simp at h)
noncomputable def sCxImg:Spec Tryz.prog :=
 ⟨97,Tryz.call97,[.one (.a (mCl m)),.one (.a (cC r))],[],.one (.a (cC (imR r m))),[],fun β w _=>by
  have:=cx_img h hm β w
  rw [cxQ_eq] at this
  exact this,by kernel_rfl⟩
end
def RwD (sz n:Nat) (L:Nat→List Lf) (w:World) (g:Pl):Prop :=
 (n=0∧∀ c,¬ g.F c)∨(0<n∧∃ b o cs t fr,(∀ m,g.v m=some ⟨b,o+m,none⟩)∧(∀ c,g.F c↔c=b)∧w.heap[b]?=some (.cells cs t fr)∧∀ j,j<n→w.rangeAt b (o+j*sz) ((L j).map (Lf.den idE)))
theorem RwD.heap {sz n:Nat} {L:Nat→List Lf} {w w':World} {g:Pl} (h:RwD sz n L w g) (k:∀ b,g.F b→w'.heap[b]?=w.heap[b]?):RwD sz n L w' g:=by
 rcases h with h | ⟨h0,b,o,cs,t,fr,h1,h2,h3,h4⟩
 · exact .inl h
 · have e:=k b ((h2 b).2 rfl)
   refine .inr ⟨h0,b,o,cs,t,fr,h1,h2,by rw [e]; exact h3,fun j hj i v hv=>?_⟩
   have:=h4 j hj i v hv
   rw [cell_of_row _ _ _ _ _ _ h3] at this
   rw [cell_of_row _ _ _ _ _ _ (by rw [e]; exact h3)]
   exact this
theorem RwD.lt {sz n:Nat} {L:Nat→List Lf} {w:World} {g:Pl} (h:RwD sz n L w g) (c:Nat) (hc:g.F c):c<w.heap.size:=by
 rcases h with h | ⟨h0,b,o,cs,t,fr,h1,h2,h3,h4⟩
 · exact absurd hc (h.2 c)
 · rw [(h2 c).1 hc]
   exact heap_some_lt h3
theorem lsRw_stable (sz n:Nat) (L:Nat→List Lf):Stable (RwD sz n L) :=
 ⟨fun w g h c hc=>h.lt c hc,fun w w' g h k=>h.heap fun b hb=>k.block b (h.lt b hb),
  fun w w' g b o m s h hs ht hF=>h.heap fun c hc=>ht.block c (h.lt c hc) (fun e=>hF (e▸hc))⟩
def rwT (sz n:Nat) (L:Nat→List Lf):Thing:=thing (RwD sz n L) (lsRw_stable sz n L)
def lsYOf:SV→Nat
 | .one (.c (.b (.y k _ _)))=>k
 | _=>0
def lsZOf:SV→Nat
 | .one (.c (.b (.z k _)))=>k
 | _=>0
theorem ls_ix {T:TypeId} (hu:Tryz.prog.underlying T=some (.slice (Tryz.prog.elem T))) {sz:Nat} (hs:(Tryz.prog.info? (Tryz.prog.elem T)).map (·.size)=some sz) {n N j:Nat} {L:Nat→List Lf} (hj:j<n) (hN:n≤N) (k:Nat) (x y:Operand) (β:Env) (w:World) (h:holdsAll β w [(k,(rwT sz N L).ob)]) (ρ:Operand→Value) (o:Oper) (ho:o.op=.indexAddr T x y)
  (hx:(Op.indexAddr T x y).operands.toList.map ρ=[.slice ((β k).v 0) n ((β k).c 0),.int .i64 (j:Int)]):∃ ys w',fresh β w [(k,(rwT sz N L).ob)] ys∧(execOp ρ o).run Tryz.prog w=.ok (.value ((SV.one (.c (.b (.z k (j*sz))))).den (extE β 0 ys))) w'∧newHold w' [] ys∧Below w.heap.size w w':=by
 have h1:RwD sz N L w (β k):=h _ (List.mem_singleton.2 rfl)
 have h3:ρ x=.slice ((β k).v 0) n ((β k).c 0)∧ρ y=.int .i64 (j:Int):=by simpa [Op.operands] using hx
 rcases h1 with h1 | ⟨h0,b,of,cs,t,fr,h1,h2,h4,h5⟩
 · omega
 refine ⟨[],w,(fun _ h=>by cases h),?_,trivial,Below.refl _ _⟩
 unfold execOp
 rw [ho]
 dsimp only
 rw [h3.1,h3.2,h1 0]
 have e:((SV.one (.c (.b (.z k (j*sz))))).den (extE β 0 []))=.pointer (some ⟨b,of+j*sz,none⟩):=by
  show Value.pointer ((β k).v (j*sz))=_
  rw [h1]
 rw [e]
 have hz:((sizeOf (Tryz.prog.elem T)).run Tryz.prog w)=.ok sz w:=by
  cases hq:Tryz.prog.info? (Tryz.prog.elem T) with
  | none=>simp [hq] at hs
  | some i =>
   have hs:i.size=sz:=by simpa [hq] using hs
   simp [sizeOf,typeInfo,hq,hs]
 have h6:=run_indexAt_slice (P:=Tryz.prog) (w:=w) T ⟨b,of,none⟩ n ((β k).c 0) .i64 (j:Int) hu
 rw [if_pos ⟨by omega,by omega⟩,hz] at h6
 simp only [Result.andThen_ok,Int.toNat_natCast,Addr.add_mid] at h6
 simp [go_sem,Nat.add_zero,h6]
def eIx {T:TypeId} (hu:Tryz.prog.underlying T=some (.slice (Tryz.prog.elem T))) {sz:Nat} (hs:(Tryz.prog.info? (Tryz.prog.elem T)).map (·.size)=some sz) {n N j:Nat} (L:Nat→List Lf) (hj:j<n) (hN:n≤N):Ev Tryz.prog:=.dyn (fun o _ _=>match o.op with
 | .indexAddr t _ _=>Nat.beq t T
 | _=>false) fun o xs _=>match o.op with
 | .indexAddr _ x y=>lit (lsYOf (xs.getD 0 undefS)) fun k=>.rd (o.dst.getD 0) (.indexAddr T x y) (fun β=>[.slice ((β k).v 0) n ((β k).c 0),.int .i64 (j:Int)]) [(k,(rwT sz N L).ob)] 0 (.one (.c (.b (.z k (j*sz))))) [] (fun β w h ρ o ho hx=>ls_ix hu hs hj hN k x y β w h ρ o ho hx)
 | _=>.cut
theorem ls_ld {T:TypeId} {d:TypeDesc} (hu:Tryz.prog.underlying T=some d) (hd:d.isRow=true) {sz:Nat} {n j:Nat} {L:Nat→List Lf} (hs:(Tryz.prog.info? T).map (·.size)=some (L j).length) (hL:∀ β,(L j).map (Lf.den β)=(L j).map (Lf.den idE)) (hj:j<n) (k:Nat) (x:Operand) (β:Env) (w:World) (h:holdsAll β w [(k,(rwT sz n L).ob)]) (ρ:Operand→Value) (o:Oper) (ho:o.op=.load T x)
  (hx:(Op.load T x).operands.toList.map ρ=[.pointer ((β k).v (j*sz))]):∃ ys w',fresh β w [(k,(rwT sz n L).ob)] ys∧(execOp ρ o).run Tryz.prog w=.ok (.value ((SV.one (.a (L j))).den (extE β 0 ys))) w'∧newHold w' [] ys∧Below w.heap.size w w':=by
 have h1:RwD sz n L w (β k):=h _ (List.mem_singleton.2 rfl)
 have h3:ρ x=.pointer ((β k).v (j*sz)):=by simpa [Op.operands] using hx
 rcases h1 with h1 | ⟨h0,b,of,cs,t,fr,h1,h2,h4,h5⟩
 · omega
 refine ⟨[],w,(fun _ h=>by cases h),?_,trivial,Below.refl _ _⟩
 unfold execOp
 rw [ho]
 dsimp only
 rw [h3,h1]
 have h6:=run_loadAt_mid (P:=Tryz.prog) w b (of+j*sz) T ((L j).map (Lf.den idE)) d (h5 j hj) hu hd (by rw [List.length_map]; exact hs)
 have e:((SV.one (.a (L j))).den (extE β 0 []))=.agg ((L j).map (Lf.den idE)).toArray:=by
  show Value.agg ((L j).map (Lf.den (extE β 0 []))).toArray=_
  rw [hL]
 rw [e]
 simp only [Sem.run_bind,h6,Result.andThen_ok]
 rfl
def eLd {T:TypeId} {d:TypeDesc} (hu:Tryz.prog.underlying T=some d) (hd:d.isRow=true) (sz:Nat) {n j:Nat} {L:Nat→List Lf} (hs:(Tryz.prog.info? T).map (·.size)=some (L j).length) (hL:∀ β,(L j).map (Lf.den β)=(L j).map (Lf.den idE)) (hj:j<n):Ev Tryz.prog:=.dyn (fun o xs _=>match o.op with
 | .load t _=>Nat.beq t T
 | _=>false) fun o xs _=>match o.op with
 | .load _ x=>lit (lsZOf (xs.getD 0 undefS)) fun k=>.rd (o.dst.getD 0) (.load T x) (fun β=>[.pointer ((β k).v (j*sz))]) [(k,(rwT sz n L).ob)] 0 (.one (.a (L j))) [] (fun β w h ρ o ho hx=>ls_ld hu hd hs hL hj k x β w h ρ o ho hx)
 | _=>.cut
theorem app_core {P:Program} (A:AppT P) (w:World) (ty:TypeId) {n m:Nat} {xs news:List Value} (old:Option (Nat × Nat)) (v:Value)
  (hold:(old=none∧n=0∧xs=[]∧v=.slice none 0 0)∨∃ b c,old=some (b,c)∧v=.slice (some ⟨b,0,none⟩) n c∧w.ownsRow 0 A.e A.sz v n xs)
  (ad:Addr) (cc:Nat) (hl:news.length=m*A.sz) (hnews:∀ j u,news[j]?=some u→w.cell? (ad.add j)=some u) (h1:∀ u∈news,u.oneCell'=true) (hm:0<m) (h63:n+m≤maxLen) (hb:(n+m)*A.bytes≤140737488355328) :
  ∃ g cap w',(Builtin.append_ #[A.t,A.t] ty #[v,.slice (some ad) m cc]).run P w=.ok (.slice (some ⟨g,0,none⟩) (n+m) cap) w'∧w'.ownsRow 0 A.e A.sz (.slice (some ⟨g,0,none⟩) (n+m) cap) (n+m) (xs++news) ∧
   ((w.heap.size≤g∧Below w.heap.size w w')∨∃ c,old=some (g,c)∧∃ N,Slot w g 0 N∧Touch w w' g 0 N):=by
 have hsmall:n+m≤9223372036854775807:=by simp only [maxLen] at h63; omega
 have grown:∀ (o:Nat),o<n+m→xs.length=n*A.sz →
   (w.drew.alloc (.cells (xs.toArray++news.toArray++Builtin.zeroCells A.z.cells (grownCap w (n+m) o A.e-(n+m))) A.e)).ownsRow 0 A.e A.sz
    (.slice (some ⟨w.heap.size,0,none⟩) (n+m) (grownCap w (n+m) o A.e)) (n+m) (xs++news) ∧
   Below w.heap.size w (w.drew.alloc (.cells (xs.toArray++news.toArray++Builtin.zeroCells A.z.cells (grownCap w (n+m) o A.e-(n+m))) A.e)):=by
  intro o ho hx
  have hge:=grownCap_ge w (n+m) o A.e
  have hcm:grownCap w (n+m) o A.e≤maxLen:=grownCap_le_maxLen w (n+m) o A.e h63
  have hlen:(xs++news).length=(n+m)*A.sz:=by rw [List.length_append,hx,hl,Nat.add_mul]
  refine ⟨⟨hlen,.inr ⟨w.heap.size,_,_,rfl,Nat.zero_le _,heap_alloc_new w.drew _,hge,hcm,?_,?_⟩⟩,⟨rfl,rfl,rfl,by simp,fun k hk=>Below.heap_alloc w.drew _ k hk⟩⟩
  · simp only [Array.size_append,List.size_toArray,size_zeroCells,A.hzs,hx,hl,← Nat.add_mul]
    congr 1
    omega
  · simp only [Array.toList_append,List.append_assoc]
    rw [← List.append_assoc,← hlen]
    exact List.take_left
 rcases hold with ⟨rfl,rfl,rfl,rfl⟩ | ⟨b,c,rfl,rfl,hown⟩
 · obtain ⟨g1,g2⟩:=grown 0 (by omega) (by simp)
   refine ⟨w.heap.size,grownCap w (0+m) 0 A.e,_,?_,g1,.inl ⟨Nat.le_refl _,g2⟩⟩
   have:=run_append_nil (P:=P) w A.t ty A.e A.i A.z A.ht A.hi A.hz ad m cc news (by rw [A.hsize]; exact hl) hnews hm (by omega) (by rw [A.hby]; rw [Nat.zero_add] at hb; omega)
   simpa using this
 · have hown2:=hown
   obtain ⟨hxl,h2⟩:=hown
   rcases h2 with ⟨e,_⟩ | ⟨g,cap,cur,e,_,hh,hnc,hcm,hcs,ht⟩
   · cases e
   injection e with e1 e2 e3
   injection e1 with e1
   injection e1 with e1
   subst e1 e3
   by_cases hroom:n+m≤c
   · have hfit:n*A.i.size+news.length≤cur.size:=by rw [hl,hcs,A.hsize,← Nat.add_mul]; exact Nat.mul_le_mul_right _ hroom
     have hr:=run_append_room (P:=P) w A.t ty A.e A.i A.ht A.hi b n c cur hh ad m cc news (by rw [A.hsize]; exact hl) hnews h1 hroom hfit
     have hsize:(cur.toList.take (n*A.i.size)++news++cur.toList.drop (n*A.i.size+news.length)).toArray.size=cur.size:=by
      simp only [List.size_toArray,List.length_append,List.length_take,List.length_drop,Array.length_toList]
      omega
     refine ⟨b,c,_,hr,⟨by rw [List.length_append,hxl,hl,Nat.add_mul],.inr ⟨b,c,_,rfl,Nat.zero_le _,setRow_heap w b cur _ A.e _ hh,hroom,hcm,by rw [hsize]; exact hcs,?_⟩⟩,.inr ⟨c,rfl,cur.size,⟨cur,A.e,hh,A.he,by omega⟩,?_⟩⟩
     · rw [A.hsize,ht]
       have hlen:(xs++news).length=(n+m)*A.sz:=by rw [List.length_append,hxl,hl,Nat.add_mul]
       rw [← hlen]
       exact List.take_left
     · exact ⟨rfl,rfl,rfl,by simp,fun k hk hne=>setRow_other w _ k _ hne,fun cs2 t2 fr2 h2=>by
        rw [hh] at h2
        obtain ⟨rfl,rfl,rfl⟩:=Obj.cells.inj (Option.some.inj h2)
        refine ⟨_,setRow_heap w _ _ _ _ _ hh,hsize,fun j hj=>?_⟩
        have hj2:cur.size≤j:=by omega
        rw [Array.getElem?_eq_none (by rw [hsize]; exact hj2),Array.getElem?_eq_none hj2]⟩
   · obtain ⟨g1,g2⟩:=grown c (by omega) hxl
     refine ⟨w.heap.size,grownCap w (n+m) c A.e,_,?_,g1,.inl ⟨Nat.le_refl _,g2⟩⟩
     exact run_append_grow (P:=P) w A.t ty A.e A.i A.z A.ht A.hi A.hz ⟨b,0,none⟩ n c xs (by rw [A.hsize]; exact hxl) (fun j u hu=>by
      have hj:j<n*A.sz:=by have:=(List.getElem?_eq_some_iff.1 hu).1; omega
      have:=hown2.cellAt j hj
      rw [Addr.add_mid,Nat.zero_add,this]
      exact hu) ad m cc news (by rw [A.hsize]; exact hl) hnews (by omega) (by omega) (growslice_fits (by omega) (by rw [A.hby]; exact hb))
def rwCs (L:Nat→List Lf) (n:Nat):List Value:=(List.range n).flatMap fun j=>(L j).map (Lf.den idE)
theorem rwCs_succ (L:Nat→List Lf) (n:Nat):rwCs L (n+1)=rwCs L n++(L n).map (Lf.den idE):=by
 unfold rwCs
 rw [List.range_succ,List.flatMap_append,List.flatMap_cons,List.flatMap_nil,List.append_nil]
theorem rwCs_len {sz:Nat} {L:Nat→List Lf}:∀ n,(∀ j,j<n→(L j).length=sz)→(rwCs L n).length=n*sz
 | 0,_=>by simp [rwCs]
 | n+1,h=>by rw [rwCs_succ,List.length_append,rwCs_len n fun j hj=>h j (by omega),List.length_map,h n (by omega),Nat.add_mul,Nat.one_mul]
theorem rwCs_get {sz:Nat} {L:Nat→List Lf} {i e:Nat} {v:Value} (hv:((L i).map (Lf.den idE))[e]?=some v):∀ n,(∀ j,j<n→(L j).length=sz)→i<n→(rwCs L n)[i*sz+e]?=some v
 | 0,_,h=>absurd h (Nat.not_lt_zero i)
 | n+1,hs,h=>by
  have he:e<(L i).length:=by have:=(List.getElem?_eq_some_iff.1 hv).1; rwa [List.length_map] at this
  have hl:(rwCs L n).length=n*sz:=rwCs_len n fun j hj=>hs j (by omega)
  rw [rwCs_succ]
  rcases Nat.lt_succ_iff_lt_or_eq.1 h with h1 | rfl
  · have:i*sz+sz≤n*sz:=by rw [← Nat.succ_mul]; exact Nat.mul_le_mul_right _ h1
    rw [List.getElem?_append_left (by rw [hl]; have:=hs i (by omega); omega)]
    exact rwCs_get hv n (fun j hj=>hs j (by omega)) h1
  · rw [List.getElem?_append_right (by rw [hl]; omega),hl,show i*sz+e-i*sz=e by omega]
    exact hv
theorem rwCs_at {sz:Nat} {L:Nat→List Lf} {k:Nat} {v:Value}:∀ n,(∀ j,j<n→(L j).length=sz)→(rwCs L n)[k]?=some v→∃ i e,i<n∧k=i*sz+e∧((L i).map (Lf.den idE))[e]?=some v
 | 0,_,h=>by simp [rwCs] at h
 | n+1,hs,h=>by
  have hl:(rwCs L n).length=n*sz:=rwCs_len n fun j hj=>hs j (by omega)
  rw [rwCs_succ] at h
  by_cases hk:k<n*sz
  · rw [List.getElem?_append_left (by omega)] at h
    obtain ⟨i,e,h1,h2,h3⟩:=rwCs_at n (fun j hj=>hs j (by omega)) h
    exact ⟨i,e,by omega,h2,h3⟩
  · rw [List.getElem?_append_right (by omega),hl] at h
    exact ⟨n,k-n*sz,by omega,by omega,h⟩
theorem rwCs_add (L:Nat→List Lf) (n:Nat):∀ m,rwCs L (n+m)=rwCs L n++rwCs (fun j=>L (n+j)) m
 | 0=>by simp [rwCs]
 | m+1=>by rw [← Nat.add_assoc,rwCs_succ,rwCs_succ,rwCs_add L n m,List.append_assoc]
def OrD (sz:Nat) (e:TypeId) (n:Nat) (L:Nat→List Lf) (w:World) (g:Pl):Prop :=
 (∀ c,g.F c↔c=g.b)∧(∀ m,g.v m=some ⟨g.b,m,none⟩)∧(0<n∧∀ j,j<n→(L j).length=sz)∧w.ownsRow 0 e sz (.slice (some ⟨g.b,0,none⟩) n (g.c 0)) n (rwCs L n)
theorem OrD.cells {sz:Nat} {e:TypeId} {n:Nat} {L:Nat→List Lf} {w:World} {g:Pl} (h:OrD sz e n L w g):∃ cur,w.heap[g.b]?=some (.cells cur e (0,0))∧n≤g.c 0∧g.c 0≤maxLen∧cur.size=g.c 0*sz∧cur.toList.take (n*sz)=rwCs L n:=by
 rcases h.2.2.2.2 with ⟨e1,_⟩ | ⟨g',cap,cur,e1,_,hh,h1,h2,h3,h4⟩
 · cases e1
 · injection e1 with e1 e2 e3
   injection e1 with e1
   injection e1 with e1
   subst e1 e3
   exact ⟨cur,hh,h1,h2,h3,h4⟩
theorem OrD.heap {sz:Nat} {e:TypeId} {n:Nat} {L:Nat→List Lf} {w w':World} {g:Pl} (h:OrD sz e n L w g) (k:w'.heap[g.b]?=w.heap[g.b]?):OrD sz e n L w' g:=by
 obtain ⟨cur,hh,h1,h2,h3,h4⟩:=h.cells
 exact ⟨h.1,h.2.1,h.2.2.1,h.2.2.2.1,.inr ⟨g.b,g.c 0,cur,rfl,Nat.zero_le _,by rw [k]; exact hh,h1,h2,h3,h4⟩⟩
theorem lr_stable (sz:Nat) (e:TypeId) (n:Nat) (L:Nat→List Lf):Stable (OrD sz e n L) :=
 ⟨fun w g h c hc=>by rw [(h.1 c).1 hc]; obtain ⟨cur,hh,_⟩:=h.cells; exact heap_some_lt hh,
  fun w w' g h k=>h.heap (k.block _ (by obtain ⟨cur,hh,_⟩:=h.cells; exact heap_some_lt hh)),
  fun w w' g b o m s h hs ht hF=>h.heap (ht.block _ (by obtain ⟨cur,hh,_⟩:=h.cells; exact heap_some_lt hh) fun e=>hF ((h.1 b).2 e.symm))⟩
theorem OrD.rw {sz:Nat} {e:TypeId} {n:Nat} {L:Nat→List Lf} (w:World) (g:Pl) (h:OrD sz e n L w g):RwD sz n L w g:=by
 obtain ⟨cur,hh,h1,h2,h3,h4⟩:=h.cells
 refine .inr ⟨h.2.2.1.1,g.b,0,cur,e,(0,0),fun m=>by rw [h.2.1,Nat.zero_add],h.1,hh,fun j hj i v hv=>?_⟩
 rw [cell_of_row _ _ _ _ _ _ hh,Nat.zero_add]
 have hi:i<(L j).length:=by have:=(List.getElem?_eq_some_iff.1 hv).1; rwa [List.length_map] at this
 have h5:=rwCs_get hv n h.2.2.1.2 hj
 have hlt:j*sz+i<n*sz:=by
  have:j*sz+sz≤n*sz:=by rw [← Nat.succ_mul]; exact Nat.mul_le_mul_right _ hj
  have:=h.2.2.1.2 j hj
  omega
 rw [← h4,List.getElem?_take_of_lt hlt] at h5
 rw [← Array.getElem?_toList]
 exact h5
def orT (sz:Nat) (e:TypeId) (n:Nat) (L:Nat→List Lf):Thing :=
 ⟨OrD sz e n L,lr_stable sz e n L,1,RwD sz n L,lsRw_stable sz n L,OrD.rw,false,fun h=>(Bool.noConfusion h),false,fun h=>(Bool.noConfusion h),false,fun h=>(Bool.noConfusion h),false,fun h=>(Bool.noConfusion h)⟩
def orO (sz:Nat) (e:TypeId) (n:Nat) (L:Nat→List Lf):Ob:=.ow (orT sz e n L) e
inductive OrB (β:Env) (sz:Nat) (e:TypeId) (n0:Nat) (L:Nat→List Lf):Option (Nat × Ob)→Value→Prop where
 | nil (h:n0=0):OrB β sz e n0 L none (.slice none 0 0)
 | row (K:Nat) (h:n0=0):OrB β sz e n0 L (some (K,.row [] e 0 sz)) (.slice (some ⟨(β K).b,0,none⟩) 0 ((β K).c 0))
 | own (K:Nat):OrB β sz e n0 L (some (K,orO sz e n0 L)) (.slice ((β K).v 0) n0 ((β K).c 0))
structure OrL (A:AppT Tryz.prog) (L:Nat→List Lf) (n:Nat):Prop where
 len:∀ j,j<n→(L j).length=A.sz
 one:∀ j,j<n→∀ u∈(L j).map (Lf.den idE),u.oneCell'=true
 max:n≤maxLen
 bytes:n*A.bytes≤140737488355328
theorem or_core (A:AppT Tryz.prog) {L:Nat→List Lf} {n0 m:Nat} (h:OrL A L (n0+m)) (hm:0<m) {β:Env} {w:World} {old:Option (Nat × Ob)} {v:Value} (hold:oldHolds β w old) (hk:OrB β A.sz A.e n0 L old v) (b of cc M:Nat)
  (hnews:∀ i,i<m→w.rangeAt b (of+i*A.sz) ((L (n0+i)).map (Lf.den idE))) (s y:Operand) (ρ:Operand→Value) (o:Oper) (ho:o.op=.call ⟨.builtin .append,#[s,y],#[A.t,A.t]⟩) (h1:ρ s=v) (h2:ρ y=.slice (some ⟨b,of,none⟩) m cc) :
  ∃ (g:Pl) (w':World),(execOp ρ o).run Tryz.prog w=.ok (.value ((SV.one (.c (.b (.y M 0 (n0+m))))).den (extE β M [g]))) w'∧(orO A.sz A.e (n0+m) L).holds (extE β M [g]) w' g∧Grow β w w' old g∧(∀ c,g.F c→c=g.b):=by
 have hnl:(rwCs (fun j=>L (n0+j)) m).length=m*A.sz:=rwCs_len m fun j hj=>h.len _ (by omega)
 have hnc:∀ j u,(rwCs (fun j=>L (n0+j)) m)[j]?=some u→w.cell? ((⟨b,of,none⟩:Addr).add j)=some u:=fun j u hu=>by
  obtain ⟨i,e,h3,h4,h5⟩:=rwCs_at m (fun j hj=>h.len (n0+j) (by omega)) hu
  have:=hnews i h3 e u h5
  rw [Addr.add_mid,h4,← Nat.add_assoc]
  exact this
 have hone:∀ u∈rwCs (fun j=>L (n0+j)) m,u.oneCell'=true:=fun u hu=>by
  obtain ⟨j,hj,hu⟩:=List.mem_flatMap.1 hu
  exact h.one _ (by have:=List.mem_range.1 hj; omega) u hu
 obtain ⟨ol,hol,hol2⟩:∃ ol:Option (Nat × Nat),((ol=none∧n0=0∧rwCs L n0=[]∧v=.slice none 0 0)∨∃ b c,ol=some (b,c)∧v=.slice (some ⟨b,0,none⟩) n0 c∧w.ownsRow 0 A.e A.sz v n0 (rwCs L n0)) ∧
   ∀ g c,ol=some (g,c)→∃ p,old=some p∧g=(β p.1).b:=by
  cases hk with
  | nil h0=>subst h0; exact ⟨none,.inl ⟨rfl,rfl,rfl,rfl⟩,fun g c e=>by cases e⟩
  | row K h0 =>
   subst h0
   obtain ⟨ho1,cur,hc1,hc2,hc3,hc4,hc5,hc6⟩:(Ob.row [] A.e 0 A.sz).holds β w (β K):=hold
   exact ⟨some ((β K).b,(β K).c 0),.inr ⟨_,_,rfl,rfl,by simp [rwCs],.inr ⟨_,_,cur,rfl,Nat.zero_le _,hc1,hc3,hc4,hc5,by simp [rwCs]⟩⟩,fun g c e=>by
    injection e with e
    injection e with e1 e2
    exact ⟨_,rfl,e1.symm⟩⟩
  | own K =>
   obtain ⟨_,hd⟩:(orO A.sz A.e n0 L).holds β w (β K):=hold
   have hd:OrD A.sz A.e n0 L w (β K):=hd
   have hv:=hd.2.1 0
   exact ⟨some ((β K).b,(β K).c 0),.inr ⟨_,_,rfl,by rw [hv],by rw [hv]; exact hd.2.2.2⟩,fun g c e=>by
    injection e with e
    injection e with e1 e2
    exact ⟨_,rfl,e1.symm⟩⟩
 obtain ⟨g,cap,w',hr,hown,hgr⟩:=app_core A w o.type ol v hol ⟨b,of,none⟩ cc hnl hnc hone hm h.max h.bytes
 rw [← rwCs_add] at hown
 obtain ⟨cur,hcur⟩:∃ cur,w'.heap[g]?=some (.cells cur A.e (0,0)):=by
  rcases hown.2 with ⟨e1,_⟩ | ⟨g',cap,cur,e1,_,hh,_⟩
  · cases e1
  · injection e1 with e1 e2 e3
    injection e1 with e1
    injection e1 with e1
    subst e1
    exact ⟨cur,hh⟩
 refine ⟨⟨g,fun m=>some ⟨g,m,none⟩,fun _=>cap,fun c=>c=g,fun _=>undef⟩,w',?_,⟨⟨rfl,A.he,_,hcur⟩,fun c=>Iff.rfl,fun m=>rfl,⟨by omega,h.len⟩,hown⟩,?_,fun c hc=>hc⟩
 · have e:(SV.one (.c (.b (.y M 0 (n0+m))))).den (extE β M [(⟨g,fun m=>some ⟨g,m,none⟩,fun _=>cap,fun c=>c=g,fun _=>undef⟩:Pl)])=.slice (some ⟨g,0,none⟩) (n0+m) cap:=by
    have:=extE_in (β:=β) (n:=M) (xs:=[(⟨g,fun m=>some ⟨g,m,none⟩,fun _=>cap,fun c=>c=g,fun _=>undef⟩:Pl)]) (i:=0) rfl
    simp only [Nat.add_zero] at this
    simp only [SV.den,SC.den,Lf.den,Lf0.den,this]
   rw [e]
   exact exec_append s y A.t ho h1 h2 hr
 · rcases hgr with ⟨k1,k2⟩ | ⟨c,k1,N,k2,k3⟩
   · exact .inl ⟨k1,k2⟩
   · obtain ⟨p,p1,p2⟩:=hol2 g c k1
     exact .inr ⟨p,p1,p2,N,k2,k3⟩
def isApT (t:TypeId) (o:Oper):Bool:=match o.op,o.dst with
 | .call ⟨.builtin .append,#[_,_],#[u,u']⟩,some _=>Nat.beq u t&&Nat.beq u' t
 | _,_=>false
def lsKOf:SV→Nat
 | .one (.c (.b (.y k _ _)))=>k
 | .one (.c (.b (.r k _)))=>k
 | .one (.c (.b (.s k _ _ _)))=>k
 | _=>0
inductive OrK where
 | nil
 | row
 | own
def OrK.old (k:OrK) (sz:Nat) (e:TypeId) (n0:Nat) (L:Nat→List Lf) (K:Nat):Option (Nat × Ob):=match k with
 | .nil=>none
 | .row=>some (K,.row [] e 0 sz)
 | .own=>some (K,orO sz e n0 L)
def OrK.val (k:OrK) (n0:Nat) (g:Pl):Value:=match k with
 | .nil=>.slice none 0 0
 | .row=>.slice (some ⟨g.b,0,none⟩) 0 (g.c 0)
 | .own=>.slice (g.v 0) n0 (g.c 0)
def OrK.ok (k:OrK) (n0:Nat):Prop:=match k with
 | .nil=>n0=0
 | .row=>n0=0
 | .own=>True
theorem OrK.orB {k:OrK} {n0:Nat} (h:k.ok n0) (β:Env) (sz:Nat) (e:TypeId) (L:Nat→List Lf) (K:Nat):OrB β sz e n0 L (k.old sz e n0 L K) (k.val n0 (β K)):=by
 cases k
 · exact .nil h
 · exact .row K h
 · exact .own K
def eApL (A:AppT Tryz.prog) (k:OrK) {n0 m N t:Nat} {L L':Nat→List Lf} (hk:k.ok n0) (ht:n0+m=t) (h:OrL A L t) (hm:0<m) (hN:m≤N) (hL:∀ i,i<m→L (n0+i)=L' i):Ev Tryz.prog:=.dynU (fun o _ _=>isApT A.t o) fun o xs ob=>match o.op,o.dst with
 | .call ⟨.builtin .append,#[s,y],_⟩,some d=>lit (lsKOf (xs.getD 0 undefS)) fun K=>lit (lsKOf (xs.getD 1 undefS)) fun a=>lit ob.length fun M =>
   .upd (some d) (.call ⟨.builtin .append,#[s,y],#[A.t,A.t]⟩) (fun β=>[k.val n0 (β K),.slice ((β a).v 0) m ((β a).c 0)]) [(a,(rwT A.sz N L').ob)] (k.old A.sz A.e n0 L K) M (orO A.sz A.e t L) (.one (.c (.b (.y M 0 t)))) (fun β w hh hold ρ o ho hx=>by
    subst ht
    have h3:ρ s=k.val n0 (β K)∧ρ y=.slice ((β a).v 0) m ((β a).c 0):=by simpa [Op.operands,Call.operands] using hx
    have hd:RwD A.sz N L' w (β a):=hh (a,(rwT A.sz N L').ob) (List.mem_singleton.2 rfl)
    rcases hd with hd | ⟨h0,b,of,cs,t,fr,d1,d2,d3,d4⟩
    · omega
    obtain ⟨g,w',r1,r2,r3,r4⟩:=or_core A h hm hold (OrK.orB hk β A.sz A.e L K) b of ((β a).c 0) M (fun i hi=>by rw [hL i hi]; exact d4 i (by omega)) s y ρ o ho h3.1 (by rw [h3.2,d1]; rfl)
    exact ⟨g,w',r1,r2,r3,fun c hc=>.inl (r4 c hc)⟩)
 | _,_=>.cut
def eAp1 (A:AppT Tryz.prog) (k:OrK) {n0:Nat} {L:Nat→List Lf} {cs:List Lf} (hk:k.ok n0) (h:OrL A L (n0+1)) (hL:L n0=cs) (hc:∀ β,cs.map (Lf.den β)=cs.map (Lf.den idE)):Ev Tryz.prog:=.dynU (fun o _ _=>isApT A.t o) fun o xs ob=>match o.op,o.dst with
 | .call ⟨.builtin .append,#[s,y],_⟩,some d=>lit (lsKOf (xs.getD 0 undefS)) fun K=>lit (lsKOf (xs.getD 1 undefS)) fun a=>lit ob.length fun M =>
   .upd (some d) (.call ⟨.builtin .append,#[s,y],#[A.t,A.t]⟩) (fun β=>[k.val n0 (β K),.slice (some ⟨(β a).b,0,none⟩) 1 1]) [(a,.box cs A.e)] (k.old A.sz A.e n0 L K) M (orO A.sz A.e (n0+1) L) (.one (.c (.b (.y M 0 (n0+1))))) (fun β w hh hold ρ o ho hx=>by
    have h3:ρ s=k.val n0 (β K)∧ρ y=.slice (some ⟨(β a).b,0,none⟩) 1 1:=by simpa [Op.operands,Call.operands] using hx
    have hd:(Ob.box cs A.e).holds β w (β a):=hh (a,.box cs A.e) (List.mem_singleton.2 rfl)
    obtain ⟨g,w',r1,r2,r3,r4⟩:=or_core A h (Nat.zero_lt_one) hold (OrK.orB hk β A.sz A.e L K) (β a).b 0 1 M (fun i hi=>by
     obtain rfl:i=0:=by omega
     rw [Nat.add_zero,hL,← hc β]
     intro j v hv
     rw [cell_of_row _ _ _ _ _ _ hd.2,Nat.zero_mul]
     simpa using hv) s y ρ o ho h3.1 h3.2
    exact ⟨g,w',r1,r2,r3,fun c hc=>.inl (r4 c hc)⟩)
 | _,_=>.cut
theorem ap_none (A:AppT Tryz.prog) (s y:Operand) (w:World) (v0:Option Addr) (c0:Nat) (v:Option Addr) (c:Nat) (ρ:Operand→Value) (o:Oper) (ho:o.op=.call ⟨.builtin .append,#[s,y],#[A.t,A.t]⟩) (h1:ρ s=.slice v0 0 c0) (h2:ρ y=.slice v 0 c):(execOp ρ o).run Tryz.prog w=.ok (.value (.slice v0 0 c0)) w:=by
 refine exec_append s y A.t ho h1 h2 (run_append_nothing w A.t A.t o.type A.e A.i A.ht A.hi v0 0 c0 (Nat.zero_le _) _ ?_)
 cases v with
 | none=>exact Src.ofNil w A.ht c
 | some a=>exact Src.ofSlice w A.ht a 0 c [] (by simp) (fun j u hu=>by simp at hu) (fun u hu=>by cases hu)
def eAp0 (A:AppT Tryz.prog) (k:OrK) (hk:k.ok 0) {N:Nat} {L':Nat→List Lf}:Ev Tryz.prog:=.dyn (fun o _ _=>isApT A.t o) fun o xs ob=>match o.op,o.dst with
 | .call ⟨.builtin .append,#[s,y],_⟩,some d=>lit (lsKOf (xs.getD 0 undefS)) fun K=>lit (lsKOf (xs.getD 1 undefS)) fun a =>
   .rd d (.call ⟨.builtin .append,#[s,y],#[A.t,A.t]⟩) (fun β=>[k.val 0 (β K),.slice ((β a).v 0) 0 ((β a).c 0)]) [] 0 (match k with
    | .nil=>.one (.c (.b (.v (.slice none 0 0))))
    | .row=>.one (.c (.b (.r K 0)))
    | .own=>.one (.c (.b (.y K 0 0)))) [] (fun β w hh ρ o ho hx=>by
    have h3:ρ s=k.val 0 (β K)∧ρ y=.slice ((β a).v 0) 0 ((β a).c 0):=by simpa [Op.operands,Call.operands] using hx
    refine ⟨[],w,(fun _ h=>by cases h),?_,trivial,Below.refl _ _⟩
    cases k
    · exact ap_none A s y w _ _ _ _ ρ o ho h3.1 h3.2
    · exact ap_none A s y w _ _ _ _ ρ o ho h3.1 h3.2
    · exact ap_none A s y w _ _ _ _ ρ o ho h3.1 h3.2)
 | _,_=>.cut
def lsOwAt:List Ob→Nat→Nat
 | [],_=>0
 | .ow _ _::_,k=>k
 | _::r,k=>lsOwAt r (k+1)
def eFrz:Ev Tryz.prog:=.frz fun ob=>lsOwAt ob 0
def eSl {T:TypeId} (hu:Tryz.prog.underlying T=some (.slice (Tryz.prog.elem T))) {sz:Nat} (hs:(Tryz.prog.info? (Tryz.prog.elem T)).map (·.size)=some sz) {N n:Nat} (hN:n≤N) (e:TypeId) (L:Nat→List Lf):Ev Tryz.prog:=.dyn (fun o _ _=>match o.op with
 | .slice t _ none (some _) none=>Nat.beq t T
 | _=>false) fun o xs _=>match o.op with
 | .slice _ x none (some y) none=>lit (lsKOf (xs.getD 0 undefS)) fun k=>.rd (o.dst.getD 0) (.slice T x none (some y) none) (fun β=>[.slice ((β k).v 0) N ((β k).c 0),.int .i64 (n:Int)]) [(k,.th (orT sz e N L))] 0 (.one (.c (.b (.y k 0 n)))) [] (fun β w h ρ o ho hx=>by
   have h3:ρ x=.slice ((β k).v 0) N ((β k).c 0)∧ρ y=.int .i64 (n:Int):=by simpa [Op.operands] using hx
   have hd:OrD sz e N L w (β k):=h (k,.th (orT sz e N L)) (List.mem_singleton.2 rfl)
   obtain ⟨cur,_,h1,_⟩:=hd.cells
   refine ⟨[],w,(fun _ h=>by cases h),?_,trivial,Below.refl _ _⟩
   have hz:((sizeOf (Tryz.prog.elem T)).run Tryz.prog w)=.ok sz w:=by
    cases hq:Tryz.prog.info? (Tryz.prog.elem T) with
    | none=>simp [hq] at hs
    | some i =>
     have hs:i.size=sz:=by simpa [hq] using hs
     simp [sizeOf,typeInfo,hq,hs]
   have h6:=run_slice_h (P:=Tryz.prog) (w:=w) T ((β k).v 0) N ((β k).c 0) hu .i64 (n:Int) (by omega) (by omega)
   rw [hz] at h6
   have e:((SV.one (.c (.b (.y k 0 n)))).den (extE β 0 []))=.slice ((β k).v 0) n ((β k).c 0):=rfl
   rw [e]
   unfold execOp
   rw [ho]
   dsimp only
   simp only [Option.map_none,Option.map_some,h3.1,h3.2]
   have h7:(Instr.sliceAt T (.slice ((β k).v 0) N ((β k).c 0)) none (some (.int .i64 (n:Int))) none).run Tryz.prog w=.ok (.slice ((β k).v 0) n ((β k).c 0)) w:=by
    rw [run_sliceAt_slice (P:=Tryz.prog) (w:=w) T _ _ _ _ hu,h6,hd.2.1 0]
    simp [sliced,Addr.add]
   simp only [Sem.run_bind,h7,Result.andThen_ok]
   rfl)
 | _=>.cut
end Go.Proofs.YtmfedaakeeiolaaGreat.Y
end
