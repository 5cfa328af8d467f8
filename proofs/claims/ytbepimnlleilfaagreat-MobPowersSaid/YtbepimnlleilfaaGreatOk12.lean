/- SyC, EqM, L8, MkA, Mcp, LsO, MdB, CkN, PwS, MdC, LgF, MoB. -/
import Derived.Test.YtbepimnlleilfaaGreatOk11
set_option linter.unnecessarySimpa false
set_option linter.unusedVariables false
set_option linter.unusedSimpArgs false
section
namespace Go.Proofs.YtbepimnlleilfaaGreat.Y
open Go Go.RowKit
inductive Stop (P:Program) where
 | ended (f:Cf P)
 | head (c:Code) (ks:List Kf) (f:Cf P)
def Stop.cf {P:Program}:Stop P→Cf P
 | .ended f=>f
 | .head _ _ f=>f
def runP (P:Program) (m0 n:Nat) (Ns:List (Nat × Nat)):Nat→Option Code→List Kf→Cf P→Option (Stop P)
 | 0,_,_,_=>none
 | m+1,oc,ks,f=>match oc with
  | none=>match ks with
   | []=>some (.ended f)
   | .sq c::r=>runP P m0 n Ns m (some c) r f
   | .bl _::r=>runP P m0 n Ns m none r f
   | .lp c::r=>match f.ev with
    | .cut::ev'=>some (.head c r { f with ev:=ev' })
    | _=>runP P m0 n Ns m (some c) (.lp c::r) f
   | .sc::r=>runP P m0 n Ns m none r f
  | some c=>match c with
   | .skip=>runP P m0 n Ns m none ks f
   | .label _=>runP P m0 n Ns m none ks f
   | .region id ops d=>match (bif d then drawS1 P m0 n Ns id ops.toList f else seqS P m0 n ops ops.toList f) with
    | some f'=>runP P m0 n Ns m none ks f'
    | none=>none
   | .seq a b=>runP P m0 n Ns m (some a) (.sq b::ks) f
   | .cond x a b=>match evS idE f.sl x with
    | .bool true=>runP P m0 n Ns m (some a) ks { f with cs:=(fun β=>[(.v (evS β f.sl x),.v (.bool true))])::f.cs }
    | .bool false=>runP P m0 n Ns m (some b) ks { f with cs:=(fun β=>[(.v (evS β f.sl x),.v (.bool false))])::f.cs }
    | _=>none
   | .block id c=>runP P m0 n Ns m (some c) (.bl id::ks) f
   | .loop c=>match f.ev with
    | .cut::ev'=>some (.head c ks { f with ev:=ev' })
    | _=>runP P m0 n Ns m (some c) (.lp c::ks) f
   | .scope c=>runP P m0 n Ns m (some c) (.sc::ks) f
   | .exit id=>match popTo id ks with
    | some r=>runP P m0 n Ns m none r f
    | none=>none
   | .ret=>some (.ended f)
   | _=>none
def Stop.after {P:Program} (Q:Exit→Act→World→Prop) (a:Act) (w:World):Stop P→Prop
 | .ended _=>Q .normal a w∧Q .ret a w
 | .head c ks _=>Rounds P c (post P Q ks) a w
theorem Sync.ev {P:Program} {m0 n:Nat} {B0:Bd} {w0:World} {c:Cf P} {β:Env} {a:Act} {w:World} (h:Sync P m0 n B0 w0 c β a w) (x:List (Ev P)):Sync P m0 n B0 w0 { c with ev:=x } β a w:=⟨h.good,h.q,h.sl,h.of,h.m0,h.defers,h.uq⟩
theorem runP_ok {P:Program} {m0 n:Nat} {Ns:List (Nat × Nat)} (hm:P.follows .mixedOrders=true):∀ (m:Nat) (oc:Option Code) (ks:List Kf) (f:Cf P) (s:Stop P),runP P m0 n Ns m oc ks f=some s→f.full→(∀ x∈f.cs,x∈s.cf.cs)∧s.cf.full ∧
  (s.cf.good→∀ {B0:Bd} {w0:World} {β:Env} {a:Act} {w:World},Sync P m0 n B0 w0 f β a w→∀ (Q:Exit→Act→World→Prop),(∀ β' a' w',(∀ k,k<B0.k→β' k=β k)→Sync P m0 n B0 w0 s.cf β' a' w'→s.after Q a' w')→toShow P Q oc ks a w):=by
 intro m
 induction m with
 | zero=>intro oc ks f f' h; simp only [runP] at h; cases h
 | succ m ih =>
  intro oc ks f f' h hf
  simp only [runP] at h
  cases oc with
  | none =>
   dsimp only at h
   cases ks with
   | nil =>
    obtain rfl:=Option.some.inj h
    exact ⟨fun _ hx=>hx,hf,fun _ B0 w0 β a w s Q hQ=>(hQ β a w (fun _ _=>rfl) s).1⟩
   | cons x r =>
    cases x with
    | sq c=>obtain ⟨i1,i2,i3⟩:=ih _ _ _ _ h hf; exact ⟨i1,i2,fun hg B0 w0 β a w s Q hQ=>i3 hg s Q hQ⟩
    | bl j =>
     obtain ⟨i1,i2,i3⟩:=ih _ _ _ _ h hf
     exact ⟨i1,i2,fun hg B0 w0 β a w s Q hQ=>i3 hg s Q hQ⟩
    | lp c =>
     dsimp only at h
     split at h
     · obtain rfl:=Option.some.inj h
       exact ⟨fun _ hx=>hx,hf,fun _ B0 w0 β a w s Q hQ=>hQ β a w (fun _ _=>rfl) (s.ev _)⟩
     · obtain ⟨i1,i2,i3⟩:=ih _ _ _ _ h hf
       exact ⟨i1,i2,fun hg B0 w0 β a w s Q hQ=>rounds_one (i3 hg s Q hQ)⟩
    | sc=>obtain ⟨i1,i2,i3⟩:=ih _ _ _ _ h hf; exact ⟨i1,i2,fun hg B0 w0 β a w s Q hQ=>i3 hg s Q hQ⟩
  | some c =>
   cases c with
   | skip=>obtain ⟨i1,i2,i3⟩:=ih _ _ _ _ h hf; exact ⟨i1,i2,fun hg B0 w0 β a w s Q hQ=>wp_skip (i3 hg s Q hQ)⟩
   | label l=>obtain ⟨i1,i2,i3⟩:=ih _ _ _ _ h hf; exact ⟨i1,i2,fun hg B0 w0 β a w s Q hQ=>wp_label (i3 hg s Q hQ)⟩
   | region rid ops d =>
    dsimp only at h
    split at h
    · rename_i f1 h1
      cases d with
      | true =>
       simp only [cond_true] at h1
       have hf1:=drawS1_full h1 hf
       obtain ⟨i1,i2,i3⟩:=ih _ _ _ _ h hf1
       obtain ⟨j1,j2⟩:=drawS1_ok hm h1 (fun k hk=>(hf.1 k).1 hk) hf.2
       refine ⟨fun x hx=>i1 x (j1 x hx),i2,fun hg B0 w0 β a w s Q hQ=>?_⟩
       have:=j2 (fun β x hx=>hg β x (i1 x hx)) s (post P Q ks) fun β' a' w' e s'=>i3 hg s' Q fun β2 a2 w2 e2 s2=>hQ β2 a2 w2 (fun k hk=>(e2 k hk).trans (e k hk)) s2
       unfold RegAny at this
       simp only [Array.toArray_toList] at this
       exact wp_region_any hm this
      | false =>
       simp only [cond_false] at h1
       have hf1:=seqS_full h1 hf
       obtain ⟨i1,i2,i3⟩:=ih _ _ _ _ h hf1
       obtain ⟨j1,j2⟩:=seqS_ok h1
       exact ⟨fun x hx=>i1 x (j1 x hx),i2,fun hg B0 w0 β a w s Q hQ=>wp_region_list (j2 (fun β x hx=>hg β x (i1 x hx)) s (post P Q ks) fun β' a' w' e s'=>i3 hg s' Q fun β2 a2 w2 e2 s2=>hQ β2 a2 w2 (fun k hk=>(e2 k hk).trans (e k hk)) s2)⟩
    · cases h
   | seq c d=>obtain ⟨i1,i2,i3⟩:=ih _ _ _ _ h hf; exact ⟨i1,i2,fun hg B0 w0 β a w s Q hQ=>wp_seq (i3 hg s Q hQ)⟩
   | cond x c d =>
    dsimp only at h
    split at h
    · obtain ⟨i1,i2,i3⟩:=ih _ _ _ _ h hf
      refine ⟨fun y hy=>i1 y (List.mem_cons_of_mem _ hy),i2,fun hg B0 w0 β a w s Q hQ=>?_⟩
      obtain ⟨e,_⟩:=Eqs.cons_ok (hg β _ (i1 _ (List.mem_cons_self ..)))
      injection e with e
      exact wp_cond_true (by rw [s.sl.eval]; exact e) (i3 hg (s.cs _) Q hQ)
    · obtain ⟨i1,i2,i3⟩:=ih _ _ _ _ h hf
      refine ⟨fun y hy=>i1 y (List.mem_cons_of_mem _ hy),i2,fun hg B0 w0 β a w s Q hQ=>?_⟩
      obtain ⟨e,_⟩:=Eqs.cons_ok (hg β _ (i1 _ (List.mem_cons_self ..)))
      injection e with e
      exact wp_cond_false (by rw [s.sl.eval]; exact e) (i3 hg (s.cs _) Q hQ)
    · cases h
   | block j c=>obtain ⟨i1,i2,i3⟩:=ih _ _ _ _ h hf; exact ⟨i1,i2,fun hg B0 w0 β a w s Q hQ=>wp_block (i3 hg s Q hQ)⟩
   | loop c =>
    dsimp only at h
    split at h
    · obtain rfl:=Option.some.inj h
      exact ⟨fun _ hx=>hx,hf,fun _ B0 w0 β a w s Q hQ=>rounds_loop (hQ β a w (fun _ _=>rfl) (s.ev _))⟩
    · obtain ⟨i1,i2,i3⟩:=ih _ _ _ _ h hf
      exact ⟨i1,i2,fun hg B0 w0 β a w s Q hQ=>rounds_loop (rounds_one (i3 hg s Q hQ))⟩
   | rangeFunc _ _ _ _=>cases h
   | exit j =>
    dsimp only at h
    split at h
    · rename_i r hr
      obtain ⟨i1,i2,i3⟩:=ih _ _ _ _ h hf
      exact ⟨i1,i2,fun hg B0 w0 β a w s Q hQ=>wp_exit (post_exit hr (i3 hg s Q hQ))⟩
    · cases h
   | scope c=>obtain ⟨i1,i2,i3⟩:=ih _ _ _ _ h hf; exact ⟨i1,i2,fun hg B0 w0 β a w s Q hQ=>wp_scope_straight (i3 hg s Q hQ)⟩
   | goto _=>cases h
   | ret =>
    obtain rfl:=Option.some.inj h
    exact ⟨fun _ hx=>hx,hf,fun _ B0 w0 β a w s Q hQ=>wp_ret (post_ret (hQ β a w (fun _ _=>rfl) s).2 ks)⟩
   | refuse _=>cases h
def loopsOf:Nat→Code→List Kf→List (Code × List Kf)
 | 0,_,_=>[]
 | m+1,c,ks=>match c with
  | .seq a b=>loopsOf m a (.sq b::ks)++loopsOf m b ks
  | .cond _ a b=>loopsOf m a ks++loopsOf m b ks
  | .block id c=>loopsOf m c (.bl id::ks)
  | .loop c=>(c,ks)::loopsOf m c (.lp c::ks)
  | .scope c=>loopsOf m c (.sc::ks)
  | _=>[]
def lpAt (fn:Func) (i:Nat):Code × List Kf:=match fn.body with
 | some c=>(loopsOf 200 c []).getD i (.skip,[])
 | none=>(.skip,[])
def Stop.pos {P:Program}:Stop P→Option (Code × List Kf)
 | .ended _=>none
 | .head c ks _=>some (c,ks)
def mkC (P:Program) (n u:Nat) (sl:List (Nat × SV)) (ob:List Ob) (ev:List (Ev P)):Cf P :=
 ⟨sl++(List.range n).map fun t=>(t,.one (.c (.b (.gh u t)))),fun k=>Nat.blt k ob.length,ob,ev,[]⟩
def tEq1 (β:Env) (σ:List Nat):Env:=fun j=>β (σ.getD j 0)
def opaqB (u t:Nat):SV→Bool
 | .one (.c (.b (.gh k i)))=>Nat.beq k u&&Nat.beq i t
 | _=>false
def layB:Ob→Bool
 | .box _ _=>true
 | .row _ _ _ _=>true
 | .ow _ _=>true
 | _=>false
def deadB:Ob→Bool
 | .dead=>true
 | _=>false
def kindB:Ob→Ob→Bool
 | .th _,.th _=>true
 | .al _ _,.th _=>true
 | .box _ _,.box _ _=>true
 | .row _ _ _ _,.row _ _ _ _=>true
 | .ow _ _,.ow _ _=>true
 | .ow _ _,.th _=>true
 | _,.dead=>true
 | _,_=>false
def wkB (m0 u:Nat) (obS obT:List Ob) (σ:List Nat):Bool :=
 Nat.beq σ.length obT.length&&Nat.ble m0 u&&Nat.blt u obT.length&&(List.range m0).all (fun i=>Nat.beq (σ.getD i 0) i) &&
 (List.range obT.length).all fun j=>match obT[j]? with
  | none=>false
  | some x=>(bif Nat.beq j u then deadB x else match obS[σ.getD j 0]? with
    | none=>false
    | some y=>kindB y x&&x.of (fun k=>Nat.blt k obT.length&&!Nat.beq k u)) &&
   (bif layB x then (!Nat.ble m0 j||Nat.ble m0 (σ.getD j 0))&&(List.range obT.length).all (fun i=>Nat.beq i j||(Nat.beq i u||((match obT[i]? with | some y=>deadB y | none=>false)||!Nat.beq (σ.getD i 0) (σ.getD j 0)))) else true)
def wkOb (β:Env) (σ:List Nat):Ob→Ob→Eqs
 | .box cs t,.box cs' t'=>[(.n t,.n t'),(.v (.agg (cs.map (Lf.den β)).toArray),.v (.agg (cs'.map (Lf.den (tEq1 β σ))).toArray))]
 | .row cs t n sz,.row cs' t' n' sz'=>[(.n t,.n t'),(.n n,.n n'),(.n sz,.n sz'),(.v (.agg (cs.map (Lf.den β)).toArray),.v (.agg (cs'.map (Lf.den (tEq1 β σ))).toArray))]
 | .ow D t,.ow D' t'=>[(.ob (.ow D t),.ob (.ow D' t'))]
 | .ow D _,.th t'=>[(.ob (.th D),.ob (.th t'))]
 | y,.th t=>[(.ob (y.plain (.th t)),.ob (.th t))]
 | _,_=>[]
def wkObs (β:Env) (obS:List Ob) (σ:List Nat):List Ob→Nat→Eqs
 | [],_=>[]
 | x::r,j=>(match obS[σ.getD j 0]? with | some y=>wkOb β σ y x | none=>(match x with | .dead=>[] | _=>Eqs.no))++wkObs β obS σ r (j+1)
def wkSl (β:Env) (u L:Nat) (σ:List Nat) (slS slT:List (Nat × SV)):Nat→Eqs
 | 0=>[]
 | t+1=>(bif opaqB u t (look slT t) then [] else bif (look slT t).of (fun k=>Nat.blt k L&&!Nat.beq k u) then [(.v ((look slS t).den β),.v ((look slT t).den (tEq1 β σ)))] else Eqs.no)++wkSl β u L σ slS slT t
def pieceE (P:Program) (m0 n:Nat) (s:Option (Stop P)) (u:Nat) (sl:List (Nat × SV)) (ob:List Ob) (σ:List Nat) (β:Env):Eqs :=
 match s with
 | some (.head _ _ f)=>(bif wkB m0 u f.ob ob σ&&Nat.beq f.ev.length 0&&sl.all (fun p=>Nat.blt p.1 n) then [] else Eqs.no)++(wkObs β f.ob σ ob 0++(wkSl β u ob.length σ f.sl (mkC P n u sl ob []).sl n++eqsOf β f.cs))
 | _=>Eqs.no
def lastE (P:Program) (fn:Func) (m0 n:Nat) (res:SV) (outs:List (Nat × Ob)) (s:Option (Stop P)) (β:Env):Eqs :=
 match s with
 | some (.ended f)=>fin1 P fn m0 n res outs f β
 | _=>Eqs.no
theorem Eqs.left {a b:Eqs} (h:Eqs.ok (a++b)):Eqs.ok a:=fun p hp=>h p (List.mem_append.2 (.inl hp))
theorem Eqs.right {a b:Eqs} (h:Eqs.ok (a++b)):Eqs.ok b:=fun p hp=>h p (List.mem_append.2 (.inr hp))
theorem bif_ok {b:Bool} (h:Eqs.ok (bif b then [] else Eqs.no)):b=true:=by
 cases b
 · exact (Eqs.no_ok h).elim
 · rfl
theorem look_none:∀ {l:List (Nat × SV)} {t:Nat},(∀ p∈l,p.1≠t)→look l t=undefS
 | [],_,_=>rfl
 | (k,x)::r,t,h=>by
  unfold look
  rw [show Nat.beq k t=false by rw [Bool.eq_false_iff,ne_eq,Nat.beq_eq]; exact h (k,x) (List.mem_cons_self ..),cond_false]
  exact look_none fun p hp=>h p (List.mem_cons_of_mem _ hp)
theorem wkObs_ok {β:Env} {obS:List Ob} {σ:List Nat}:∀ {obT:List Ob} {i:Nat},Eqs.ok (wkObs β obS σ obT i)→∀ (j:Nat) (x y:Ob),obT[j]?=some x→obS[σ.getD (i+j) 0]?=some y→Eqs.ok (wkOb β σ y x)
 | [],_,_,j,x,y,h,_=>by simp at h
 | z::r,i,h,j,x,y,hx,hy=>by
  unfold wkObs at h
  cases j with
  | zero =>
   simp only [List.getElem?_cons_zero] at hx
   obtain rfl:=Option.some.inj hx
   have:=Eqs.left h
   rw [Nat.add_zero] at hy
   rw [hy] at this
   exact this
  | succ j=>exact wkObs_ok (Eqs.right h) j x y (by simpa using hx) (by rw [show i+1+j=i+(j+1) by omega]; exact hy)
theorem opaqB_eq {u t:Nat} {x:SV} (h:opaqB u t x=true):x=.one (.c (.b (.gh u t))):=by
 unfold opaqB at h
 split at h
 · rw [Bool.and_eq_true,Nat.beq_eq,Nat.beq_eq] at h
   obtain ⟨rfl,rfl⟩:=h
   rfl
 · cases h
theorem wkSl_ok {β:Env} {u L:Nat} {σ:List Nat} {slS slT:List (Nat × SV)}:∀ {n:Nat},Eqs.ok (wkSl β u L σ slS slT n)→∀ t,t<n→look slT t=.one (.c (.b (.gh u t)))∨((look slT t).of (fun k=>Nat.blt k L&&!Nat.beq k u)=true∧(look slS t).den β=(look slT t).den (tEq1 β σ))
 | 0,_,t,h=>by omega
 | n+1,h,t,ht=>by
  unfold wkSl at h
  by_cases e:t=n
  · subst e
    have h:=Eqs.left h
    cases ho:opaqB u t (look slT t) with
    | true=>exact .inl (opaqB_eq ho)
    | false =>
     rw [ho,cond_false] at h
     cases hq:(look slT t).of (fun k=>Nat.blt k L&&!Nat.beq k u) with
     | true =>
      rw [hq,cond_true] at h
      obtain ⟨e,_⟩:=Eqs.cons_ok h
      injection e with e
      exact .inr ⟨rfl,e⟩
     | false=>rw [hq,cond_false] at h; exact (Eqs.no_ok h).elim
  · exact wkSl_ok (Eqs.right h) t (by omega)
theorem layB_iff {x:Ob}:layB x=true↔∃ p,x.layOf=some p:=by
 cases x<;>simp [layB,Ob.layOf]
theorem kind_lay {y x:Ob} (h:kindB y x=true) (hx:layB x=true):layB y=true:=by
 cases y<;>cases x<;>first | rfl | (cases h; done) | (cases hx; done)
theorem kind_dead {y x:Ob} (h:kindB y x=true) (hx:x≠.dead):y≠.dead:=by
 cases y<;>cases x<;>first | (intro e; cases e; done) | (cases h; done) | exact absurd rfl hx
theorem wk_hold {β β':Env} {w:World} {g:Pl} {σ:List Nat} {q:Nat→Bool} {y x:Ob} (hk:kindB y x=true) (he:Eqs.ok (wkOb β σ y x)) (hq:x.of q=true) (hβ:∀ k,q k=true→tEq1 β σ k=β' k) (h:y.holds β w g):x.holds β' w g:=by
 have thc:∀ (y:Ob) (t:Thing),Eqs.ok [(Tm.ob (y.plain (.th t)),Tm.ob (.th t))]→y.holds β w g→(Ob.th t).holds β' w g:=fun y t he h=>by
  obtain ⟨e,_⟩:=Eqs.cons_ok he
  injection e with e
  have:=Ob.plain_holds (x:=.th t) h
  rw [e] at this
  exact this
 cases x with
 | dead=>exact trivial
 | al r D=>cases y<;>(cases hk; done)
 | pl n=>cases y<;>(cases hk; done)
 | th t =>
  cases y<;>first | (cases hk; done) | exact thc _ t he h | skip
  obtain ⟨e,_⟩:=Eqs.cons_ok he
  injection e with e
  injection e with e
  subst e
  exact h.2
 | ow D' t' =>
  cases y<;>first | (cases hk; done) | skip
  obtain ⟨e,_⟩:=Eqs.cons_ok he
  injection e with e
  injection e with e e2
  subst e e2
  exact h
 | box cs' t' =>
  cases y<;>first | (cases hk; done) | skip
  rename_i cs t
  obtain ⟨e1,he⟩:=Eqs.cons_ok he
  obtain ⟨e2,_⟩:=Eqs.cons_ok he
  injection e1 with e1
  injection e2 with e2
  injection e2 with e2
  have e2:=congrArg Array.toList e2
  dsimp only at e2
  subst e1
  have hc:cs'.map (Lf.den (tEq1 β σ))=cs'.map (Lf.den β'):=all_congr hq (Lf.den_congr hβ)
  refine ⟨h.1,?_⟩
  rw [← hc,← e2]
  exact h.2
 | row cs' t' n' sz' =>
  cases y<;>first | (cases hk; done) | skip
  rename_i cs t n sz
  obtain ⟨e1,he⟩:=Eqs.cons_ok he
  obtain ⟨e3,he⟩:=Eqs.cons_ok he
  obtain ⟨e4,he⟩:=Eqs.cons_ok he
  obtain ⟨e2,_⟩:=Eqs.cons_ok he
  injection e1 with e1
  injection e3 with e3
  injection e4 with e4
  injection e2 with e2
  injection e2 with e2
  have e2:=congrArg Array.toList e2
  dsimp only at e2
  subst e1 e3 e4
  have hc:cs'.map (Lf.den (tEq1 β σ))=cs'.map (Lf.den β'):=all_congr hq (Lf.den_congr hβ)
  have hl:cs'.length=cs.length:=by
   have:=congrArg List.length e2
   rw [List.length_map,List.length_map] at this
   exact this.symm
  obtain ⟨h0,cur,h1,h2,h3,h4,h5,h6⟩:=h
  refine ⟨h0,cur,h1,by rw [hl]; exact h2,h3,h4,h5,?_⟩
  rw [← hc,← e2]
  exact h6
theorem wk_syncX {P:Program} {m0 n u:Nat} {B0:Bd} {w0:World} {f:Cf P} {sl:List (Nat × SV)} {ob:List Ob} {ev:List (Ev P)} {σ:List Nat} {β:Env} {a:Act} {w:World}
  (hB:wkB m0 u f.ob ob σ=true) (hn:sl.all (fun p=>Nat.blt p.1 n)=true) (hO:Eqs.ok (wkObs β f.ob σ ob 0)) (hS:Eqs.ok (wkSl β u ob.length σ f.sl (mkC P n u sl ob ev).sl n)) (h:Sync P m0 n B0 w0 f β a w) (hBk:B0.k≤m0) :
  ∃ β':Env,(∀ k,k<m0→β' k=β k)∧((∀ j,j≠u→β' j=β (σ.getD j 0))∧β' u=⟨0,fun _=>none,fun _=>0,fun _=>False,fun t=>a.tmps.getD t undef⟩)∧Sync P m0 n B0 w0 (mkC P n u sl ob ev) β' a w:=by
 unfold wkB at hB
 rw [Bool.and_eq_true,Bool.and_eq_true,Bool.and_eq_true,Bool.and_eq_true,Nat.beq_eq,Nat.ble_eq,Nat.blt_eq] at hB
 obtain ⟨⟨⟨⟨hlen,hmu⟩,hul⟩,hid⟩,hall⟩:=hB
 have hσ:∀ i,i<m0→σ.getD i 0=i:=fun i hi=>Nat.eq_of_beq_eq_true (List.all_eq_true.1 hid i (List.mem_range.2 hi))
 obtain ⟨β',hβ⟩:∃ β':Env,β'=fun j=>if j=u then ⟨0,fun _=>none,fun _=>0,fun _=>False,fun t=>a.tmps.getD t undef⟩ else β (σ.getD j 0):=⟨_,rfl⟩
 have hβu:β' u=⟨0,fun _=>none,fun _=>0,fun _=>False,fun t=>a.tmps.getD t undef⟩:=by rw [hβ]; exact if_pos rfl
 have hβo:∀ j,j≠u→β' j=β (σ.getD j 0):=fun j hj=>by rw [hβ]; exact if_neg hj
 have hβm:∀ k,k<m0→β' k=β k:=fun k hk=>by rw [hβo k (by omega),hσ k hk]
 have hq:∀ k,(Nat.blt k ob.length&&!Nat.beq k u)=true→tEq1 β σ k=β' k:=fun k hk=>by
  rw [Bool.and_eq_true,Bool.not_eq_true',Nat.blt_eq] at hk
  rw [hβo k (fun e=>by rw [e,Nat.beq_refl] at hk; cases hk.2)]
  rfl
 have hmono:∀ k,(Nat.blt k ob.length&&!Nat.beq k u)=true→Nat.blt k ob.length=true:=fun k hk=>by rw [Bool.and_eq_true] at hk; exact hk.1
 have hsrc:∀ (j:Nat) (x:Ob),ob[j]?=some x→(j=u→x=.dead)∧(j≠u→∃ y,f.ob[σ.getD j 0]?=some y∧kindB y x=true∧x.of (fun k=>Nat.blt k ob.length&&!Nat.beq k u)=true)∧(layB x=true→(m0≤j→m0≤σ.getD j 0)∧∀ (i:Nat) (y:Ob),ob[i]?=some y→y≠.dead→i≠j→i≠u→σ.getD i 0≠σ.getD j 0):=by
  intro j x hx
  have hj:j<ob.length:=(List.getElem?_eq_some_iff.1 hx).1
  have hc:=List.all_eq_true.1 hall j (List.mem_range.2 hj)
  rw [hx] at hc
  dsimp only at hc
  rw [Bool.and_eq_true] at hc
  obtain ⟨hc1,hc2⟩:=hc
  refine ⟨fun e=>?_,fun e=>?_,fun hl=>?_⟩
  · rw [e,Nat.beq_refl,cond_true] at hc1
    cases x<;>first | rfl | (cases hc1; done)
  · rw [show Nat.beq j u=false by rw [Bool.eq_false_iff,ne_eq,Nat.beq_eq]; exact e,cond_false] at hc1
    split at hc1
    · cases hc1
    · rename_i y hy
      rw [Bool.and_eq_true] at hc1
      exact ⟨y,hy,hc1.1,hc1.2⟩
  · rw [hl,cond_true,Bool.and_eq_true,Bool.or_eq_true] at hc2
    refine ⟨fun hm=>?_,fun i y hy hd hij hiu e=>?_⟩
    · rcases hc2.1 with h1 | h1
      · rw [Bool.not_eq_true',Bool.eq_false_iff,ne_eq,Nat.ble_eq] at h1
        exact absurd hm h1
      · exact Nat.le_of_ble_eq_true h1
    · have hi:i<ob.length:=(List.getElem?_eq_some_iff.1 hy).1
      have h1:=List.all_eq_true.1 hc2.2 i (List.mem_range.2 hi)
      rw [hy,Bool.or_eq_true,Bool.or_eq_true,Bool.or_eq_true,Nat.beq_eq,Nat.beq_eq,e,Nat.beq_refl] at h1
      rcases h1 with h1 | h1 | h1 | h1
      · exact hij h1
      · exact hiu h1
      · refine hd ?_
        cases y<;>first | rfl | (cases h1; done)
      · cases h1
 have hex:∀ {k:Nat} {y:Ob},f.ob[k]?=some y→f.q k=true:=fun {k y} hy=>(h.q k).2 (List.getElem?_eq_some_iff.1 hy).1
 have hob:∀ {k:Nat},Nat.blt k ob.length=true→∃ x,ob[k]?=some x:=fun {k} hk=>⟨_,List.getElem?_eq_getElem (by rw [Nat.blt_eq] at hk; exact hk)⟩
 have hfree:∀ {k:Nat} {x:Ob},ob[k]?=some x→Free (fun k=>Nat.blt k ob.length) (fun k=>ob[k]?) k→layB x=true∧k≠u:=fun {k x} hx hf=>by
  rcases hf with ⟨x',e,p,hp⟩ | ⟨⟨m,e⟩,_⟩
  · dsimp only at e
    rw [hx] at e
    obtain rfl:=Option.some.inj e
    refine ⟨layB_iff.2 ⟨p,hp⟩,fun e=>?_⟩
    rw [(hsrc k x hx).1 e] at hp
    cases hp
  · dsimp only at e
    rw [hx] at e
    obtain rfl:=Option.some.inj e
    exfalso
    by_cases ek:k=u
    · have:=(hsrc k _ hx).1 ek
      cases this
    · obtain ⟨y,_,hk,_⟩:=(hsrc k _ hx).2.1 ek
      cases y<;>(cases hk; done)
 have hlayS:∀ {k:Nat} {x:Ob},ob[k]?=some x→layB x=true→k≠u→f.q (σ.getD k 0)=true∧Free f.q (fun k=>f.ob[k]?) (σ.getD k 0):=fun {k x} hx hl hku=>by
  obtain ⟨y,hy,hk,_⟩:=(hsrc k x hx).2.1 hku
  obtain ⟨p,hp⟩:=layB_iff.1 (kind_lay hk hl)
  exact ⟨hex hy,Free.lay hy hp⟩
 refine ⟨β',hβm,⟨hβo,hβu⟩,⟨⟨h.good.bel,h.good.le,?_,?_,?_,?_,?_,?_,?_,?_,?_⟩,fun k=>by dsimp only [mkC]; rw [Nat.blt_eq],⟨h.sl.1,fun t=>?_⟩,fun t=>?_,?_,h.defers,?_⟩⟩
 ·
  intro k o hk hko
  dsimp only [mkC] at hk hko ⊢
  by_cases e:k=u
  · rw [(hsrc k o hko).1 e]
    exact ⟨trivial,rfl⟩
  · obtain ⟨y,hy,hkd,hof⟩:=(hsrc k o hko).2.1 e
    have hh:=(h.good.hold _ y (hex hy) hy).1
    refine ⟨?_,Ob.of_mono hmono _ hof⟩
    rw [hβo k e]
    refine wk_hold hkd (wkObs_ok hO k o y hko ?_) hof hq hh
    rw [Nat.zero_add]
    exact hy
 ·
  intro k hk c hc
  dsimp only [mkC] at hk
  by_cases e:k=u
  · rw [e,hβu] at hc; exact hc.elim
  · rw [hβo k e] at hc
    obtain ⟨x,hx⟩:=hob hk
    obtain ⟨y,hy,_⟩:=(hsrc k x hx).2.1 e
    exact h.good.lt _ (hex hy) c hc
 ·
  intro k j hk hj hne hm hf hd
  dsimp only [mkC] at hk hj hf hd
  obtain ⟨x,hx⟩:=hob hk
  obtain ⟨z,hz⟩:=hob hj
  obtain ⟨hl,hku⟩:=hfree hx hf
  by_cases e:j=u
  · rw [e,hβu]; exact fun hc=>hc.elim
  · obtain ⟨hs1,hs2⟩:=hlayS hx hl hku
    obtain ⟨hm2,hdis⟩:=(hsrc k x hx).2.2 hl
    obtain ⟨y,hy,hkd,_⟩:=(hsrc j z hz).2.1 e
    have hzd:z≠.dead:=fun e=>hd (by rw [hz,e])
    rw [hβo k hku,hβo j e]
    exact h.good.ne _ _ hs1 (hex hy) (hdis j z hz hzd hne e) (hm2 hm) hs2 (fun e=>kind_dead hkd hzd (Option.some.inj (hy.symm.trans e)))
 ·
  intro k x hk hm hx hmi
  dsimp only [mkC] at hk hx
  obtain ⟨hl,hku⟩:layB x=true∧k≠u:=by
   refine ⟨?_,fun e=>by rw [(hsrc k x hx).1 e] at hmi; cases hmi⟩
   cases x<;>first | (cases hmi; done) | exact layB_iff.2 ⟨_,rfl⟩ | skip
   exfalso
   by_cases ek:k=u
   · have:=(hsrc k _ hx).1 ek
     cases this
   · obtain ⟨y,_,hk,_⟩:=(hsrc k _ hx).2.1 ek
     cases y<;>(cases hk; done)
  obtain ⟨hs1,hs2⟩:=hlayS hx hl hku
  rw [hβo k hku]
  exact h.good.low _ hs1 (((hsrc k x hx).2.2 hl).1 hm) hs2
 ·
  intro k hk hm c hc
  dsimp only [mkC] at hk
  by_cases e:k=u
  · rw [e,hβu] at hc; exact hc.elim
  · rw [hβo k e] at hc
    obtain ⟨x,hx⟩:=hob hk
    obtain ⟨y,hy,_⟩:=(hsrc k x hx).2.1 e
    by_cases hs:m0≤σ.getD k 0
    · exact (h.good.fr _ (hex hy) hs c hc).imp id fun ⟨i,i1,i2⟩=>⟨i,i1,by rw [hβm i i1]; exact i2⟩
    · exact .inr ⟨σ.getD k 0,by omega,by rw [hβm _ (by omega)]; exact hc⟩
 · intro i hi
   dsimp only [mkC]
   rw [Nat.blt_eq]
   omega
 · intro k r D hk ho
   dsimp only [mkC] at ho
   exfalso
   by_cases e:k=u
   · have:=(hsrc k _ ho).1 e
     cases this
   · obtain ⟨y,_,hkd,_⟩:=(hsrc k _ ho).2.1 e
     cases y<;>(cases hkd; done)
 · intro k r D hk ho
   dsimp only [mkC] at ho
   exfalso
   by_cases e:k=u
   · have:=(hsrc k _ ho).1 e
     cases this
   · obtain ⟨y,_,hkd,_⟩:=(hsrc k _ ho).2.1 e
     cases y<;>(cases hkd; done)
 · intro k i hk hi hlt hm hd hp
   dsimp only [mkC] at hp
   obtain ⟨M,hp⟩:=hp
   exfalso
   by_cases e:i=u
   · have:=(hsrc i _ hp).1 e
     cases this
   · obtain ⟨y,_,hkd,_⟩:=(hsrc i _ hp).2.1 e
     cases y<;>(cases hkd; done)
 ·
  by_cases ht:t<n
  · rcases wkSl_ok hS t ht with e | ⟨e1,e2⟩
    · rw [e]
      show _=(β' u).u t
      rw [hβu]
    · rw [h.sl.2 t,e2]
      exact SV.den_congr hq _ e1
  · have hl:look (mkC P n u sl ob ev).sl t=undefS:=look_none fun p hp=>by
     rcases List.mem_append.1 hp with hp | hp
     · have:=List.all_eq_true.1 hn p hp
       rw [Nat.blt_eq] at this
       omega
     · obtain ⟨t',ht',rfl⟩:=List.mem_map.1 hp
       have:=List.mem_range.1 ht'
       dsimp only
       omega
    rw [hl]
    show a.tmps.getD t undef=undef
    rw [Array.getD_eq_getD_getElem?,Array.getElem?_eq_none (by rw [h.sl.1]; omega)]
    rfl
 · by_cases ht:t<n
   · rcases wkSl_ok hS t ht with e | ⟨e1,e2⟩
     · rw [e]
       show Nat.blt u ob.length=true
       rw [Nat.blt_eq]; exact hul
     · exact SV.of_mono hmono _ e1
   · have hl:look (mkC P n u sl ob ev).sl t=undefS:=look_none fun p hp=>by
      rcases List.mem_append.1 hp with hp | hp
      · have:=List.all_eq_true.1 hn p hp
        rw [Nat.blt_eq] at this
        omega
      · obtain ⟨t',ht',rfl⟩:=List.mem_map.1 hp
        have:=List.mem_range.1 ht'
        dsimp only
        omega
     rw [hl]; rfl
 · show m0≤ob.length∧B0.k≤ob.length
   omega
 · intro k j i D D' h1 h2
   exfalso
   by_cases e:k=u
   · have:=(hsrc k _ h1).1 e
     cases this
   · obtain ⟨y,_,hkd,_⟩:=(hsrc k _ h1).2.1 e
     cases y<;>(cases hkd; done)
theorem wk_sync {P:Program} {m0 n u:Nat} {B0:Bd} {w0:World} {f:Cf P} {sl:List (Nat × SV)} {ob:List Ob} {ev:List (Ev P)} {σ:List Nat} {β:Env} {a:Act} {w:World}
  (hB:wkB m0 u f.ob ob σ=true) (hn:sl.all (fun p=>Nat.blt p.1 n)=true) (hO:Eqs.ok (wkObs β f.ob σ ob 0)) (hS:Eqs.ok (wkSl β u ob.length σ f.sl (mkC P n u sl ob ev).sl n)) (h:Sync P m0 n B0 w0 f β a w) (hBk:B0.k≤m0:=by exact Nat.le_refl _) :
  ∃ β':Env,(∀ k,k<m0→β' k=β k)∧Sync P m0 n B0 w0 (mkC P n u sl ob ev) β' a w :=
 let ⟨β',h1,_,h2⟩:=wk_syncX (ev:=ev) hB hn hO hS h hBk
 ⟨β',h1,h2⟩
def HdOk (P:Program) (m0 n:Nat) (N:Nat) (w0:World) (β0:Env) (Q:Exit→Act→World→Prop) (C:Cf P) (p:Code × List Kf):Prop :=
 ∀ (β:Env) (a:Act) (w:World),(∀ k,k<m0→β k=β0 k)→Sync P m0 n (bd0 N m0) w0 C β a w→Rounds P p.1 (post P Q p.2) a w
theorem pieceE_parts {P:Program} {m0 n:Nat} {c:Code} {ks:List Kf} {f:Cf P} {u:Nat} {sl:List (Nat × SV)} {ob:List Ob} {σ:List Nat} (ev:List (Ev P)) (he:∀ β,Eqs.ok (pieceE P m0 n (some (.head c ks f)) u sl ob σ β)) :
  f.good∧∀ {N:Nat} {w0:World} {β:Env} {a:Act} {w:World},Sync P m0 n (bd0 N m0) w0 f β a w→∃ β':Env,(∀ k,k<m0→β' k=β k)∧Sync P m0 n (bd0 N m0) w0 (mkC P n u sl ob ev) β' a w:=by
 refine ⟨fun β x hx=>eqsOf_ok (Eqs.right (Eqs.right (Eqs.right (he β)))) x hx,fun {N w0 β a w} hs=>?_⟩
 have h:=he β
 have h1:=bif_ok (Eqs.left h)
 rw [Bool.and_eq_true,Bool.and_eq_true] at h1
 exact wk_sync h1.1.1 h1.2 (Eqs.left (Eqs.right h)) (Eqs.left (Eqs.right (Eqs.right h))) hs
theorem piece_ok {P:Program} {m0 n:Nat} {N:Nat} {w0:World} {β0:Env} {Q:Exit→Act→World→Prop} {Ns:List (Nat × Nat)} {m:Nat} {C:Cf P} {p p':Code × List Kf} {u:Nat} {sl:List (Nat × SV)} {ob:List Ob} (ev:List (Ev P)) (σ:List Nat) (hm:P.follows .mixedOrders=true)
  (hp:(runP P m0 n Ns m (some p.1) (.lp p.1::p.2) C).bind Stop.pos=some p') (he:∀ β,Eqs.ok (pieceE P m0 n (runP P m0 n Ns m (some p.1) (.lp p.1::p.2) C) u sl ob σ β))
  (hH:HdOk P m0 n N w0 β0 Q (mkC P n u sl ob ev) p'):HdOk P m0 n N w0 β0 Q C p:=by
 intro β a w hβ hs
 cases hr:runP P m0 n Ns m (some p.1) (.lp p.1::p.2) C with
 | none=>rw [hr] at hp; cases hp
 | some s =>
  rw [hr] at hp he
  cases s with
  | ended f=>cases hp
  | head c ks f =>
   obtain rfl:(c,ks)=p':=Option.some.inj hp
   obtain ⟨hg,hw⟩:=pieceE_parts ev he
   obtain ⟨_,_,r3⟩:=runP_ok hm _ _ _ _ _ hr ⟨hs.q,hs.uq⟩
   refine rounds_one (r3 hg hs Q fun β' a' w' e s'=>?_)
   obtain ⟨β'',e2,s2⟩:=hw s'
   exact hH β'' a' w' (fun k hk=>(e2 k hk).trans ((e k hk).trans (hβ k hk))) s2
def Said (P:Program) (fn:Func) (m0:Nat) (res:SV) (outs:List (Nat × Ob)) (β:Env) (w:World) (e:Ending) (w':World):Prop :=
 ∃ (β':Env) (q:Nat→Bool) (obj:Nat→Option Ob),(∀ k,k<m0→β' k=β k)∧e=.returned (res.den β')∧res.of q=true∧(∀ p∈outs,∀ c,(β' p.1).F c→w.heap.size≤c∨∃ i,i<m0∧(β i).F c)∧holdsAll β' w' outs∧Fin w w'
theorem fin1_parts {P:Program} {fn:Func} {m0 n:Nat} {res:SV} {outs:List (Nat × Ob)} {f:Cf P} (h:∀ β,Eqs.ok (fin1 P fn m0 n res outs f β)):f.good∧∀ {β0:Env} {w:World} {β':Env} {a':Act} {w':World},(∀ k,k<m0→β' k=β0 k)→Sync P m0 n (bd0 w.heap.size m0) w f β' a' w' →
  bodyPost P fn (Said P fn m0 res outs β0 w) .normal a' w'∧bodyPost P fn (Said P fn m0 res outs β0 w) .ret a' w':=by
 have fin:∃ r:R1 Value,run1 P m0 false (results fn (tmpsS idE f.sl n)) f.q f.ob []=some r∧res.of f.q=true∧r.ob.length=f.ob.length ∧
   ∀ β,Eqs.ok (chk P β (results fn (tmpsS β f.sl n)) r.tr.reverse (fun u=>[(.v u,.v (res.den β))])++(needEqs f.q f.ob outs++eqsOf β f.cs)):=by
  cases hx:run1 P m0 false (results fn (tmpsS idE f.sl n)) f.q f.ob [] with
  | none=>have:=h idE; unfold fin1 at this; rw [hx] at this; exact (Eqs.no_ok this).elim
  | some r =>
   obtain ⟨ra,rq,rob,rtr⟩:=r
   cases hc:(res.of f.q&&Nat.beq rob.length f.ob.length&&Nat.beq f.ev.length 0) with
   | false=>have:=h idE; unfold fin1 at this; rw [hx] at this; dsimp only at this; rw [hc] at this; exact (Eqs.no_ok this).elim
   | true =>
    have h3:=hc
    simp only [Bool.and_eq_true,Nat.beq_eq] at hc
    refine ⟨_,rfl,hc.1.1,hc.1.2,fun β=>?_⟩
    have:=h β
    unfold fin1 at this
    rw [hx] at this
    dsimp only at this
    rw [h3] at this
    exact this
 obtain ⟨r,f1,f2,f3,f4⟩:=fin
 refine ⟨fun β x hx=>eqsOf_ok (fun p hp=>f4 β p (List.mem_append.2 (.inr (List.mem_append.2 (.inr hp))))) x hx,?_⟩
 intro β0 w β' a' w' e s
 obtain ⟨h5,_,_,tr,h8,h9⟩:=run1_ok _ _ _ _ _ f1 (fun k hk=>(s.q k).1 hk)
 obtain ⟨k1,obj',k2,k3,k4⟩:=h9 _ _ _ _ _ _ s.good (fun k hk=>⟨hk,rfl⟩) (fun k a b=>by omega) s.m0.1
 have h6:=f4 β'
 rw [h8,List.append_nil,List.reverse_reverse] at h6
 have h7:Eqs.ok (chk P β' (results fn (tmpsS β' f.sl n)) tr (fun u=>[(.v u,.v (res.den β'))])):=fun p hp=>h6 p (List.mem_append.2 (.inl hp))
 obtain ⟨v,hv,hv2⟩:=chk_run _ _ _ h7 k1
 obtain ⟨e1,_⟩:=Eqs.cons_ok hv2
 injection e1 with e1
 subst e1
 rw [f3,rangeQ_self] at k4
 have hend:trEnd β' w' tr=w':=by
  obtain ⟨tr2,x1,x2⟩:=run1_still _ _ _ _ _ f1 (fun k hk=>(s.q k).1 hk) f3
  rw [h8,List.append_nil,List.append_nil] at x1
  rw [List.reverse_inj.1 x1]
  exact x2 β' w'
 rw [hend] at hv k4
 rw [← tmps_eq s.sl] at hv
 have hout:∀ p:Nat × Ob,f.q p.1=true→∀ c,(β' p.1).F c→w.heap.size≤c∨∃ i,i<m0∧(β0 i).F c:=fun p hp c hc=>by
  by_cases h0:m0≤p.1
  · exact (s.good.fr p.1 hp h0 c hc).imp (fun a=>a.elim (fun a=>a.elim id False.elim) False.elim) fun ⟨i,i1,i2⟩=>⟨i,i1,by rw [← e i i1]; exact i2⟩
  · exact .inr ⟨p.1,by omega,by rw [← e p.1 (by omega)]; exact hc⟩
 have hneed:Eqs.ok (needEqs f.q f.ob outs):=fun p hp=>f4 β' p (List.mem_append.2 (.inr (List.mem_append.2 (.inl hp))))
 have hres:bodyPost P fn (Said P fn m0 res outs β0 w) .normal a' w':=⟨s.defers,_,hv,β',f.q,obj',e,rfl,f2,fun p hp c hc=>hout p (needs_q _ hneed p hp) c hc,needs_hold s.good (fun k hk=>⟨hk,rfl⟩) _ hneed,⟨k4.bel.below⟩⟩
 exact ⟨hres,hres⟩
theorem last_ok {P:Program} {fn:Func} {m0 n:Nat} {w:World} {β0:Env} {res:SV} {outs:List (Nat × Ob)} {Ns:List (Nat × Nat)} {m:Nat} {C:Cf P} {p:Code × List Kf} (hm:P.follows .mixedOrders=true)
  (he:∀ β,Eqs.ok (lastE P fn m0 n res outs (runP P m0 n Ns m (some p.1) (.lp p.1::p.2) C) β)):HdOk P m0 n w.heap.size w β0 (bodyPost P fn (Said P fn m0 res outs β0 w)) C p:=by
 intro β a w1 hβ hs
 cases hr:runP P m0 n Ns m (some p.1) (.lp p.1::p.2) C with
 | none=>have:=he idE; rw [hr] at this; exact (Eqs.no_ok this).elim
 | some s =>
  rw [hr] at he
  cases s with
  | head c ks f=>exact (Eqs.no_ok (he idE)).elim
  | ended f =>
   obtain ⟨hg,hw⟩:=fin1_parts he
   obtain ⟨_,_,r3⟩:=runP_ok hm _ _ _ _ _ hr ⟨hs.q,hs.uq⟩
   exact rounds_one (r3 hg hs _ fun β' a' w' e s'=>hw (fun k hk=>(e k hk).trans (hβ k hk)) s')
def startP (P:Program) (fn:Func) (args:List SV) (obs:List Ob) (evs:List (Ev P)) (Ns:List (Nat × Nat)) (m:Nat):Option (Stop P):=match fn.body with
 | some c=>runP P obs.length (sizeS fn args) Ns m (some c) [] ⟨startS args 0,fun k=>Nat.blt k obs.length,obs,evs,[]⟩
 | none=>none
theorem sx_cut {P:Program} {f:FuncId} {fn:Func} (args:List SV) (obs:List Ob) (evs ev:List (Ev P)) (Ns:List (Nat × Nat)) (m:Nat) (res:SV) (outs:List (Nat × Ob)) (hf:P.funcs[f]?=some fn) (hm:P.follows .mixedOrders=true) {u:Nat} {sl:List (Nat × SV)} {ob:List Ob} {σ:List Nat} {p':Code × List Kf}
  (hp:(startP P fn args obs evs Ns m).bind Stop.pos=some p') (he:∀ β,Eqs.ok (pieceE P obs.length (sizeS fn args) (startP P fn args obs evs Ns m) u sl ob σ β))
  (hargs:args.all (SV.of fun k=>Nat.blt k obs.length)=true) (hobs:obs.all (fun x=>x.of (fun k=>Nat.blt k obs.length)&&x.own)=true) (β:Env) (w:World) (hh:∀ (k:Nat) (o:Ob),obs[k]?=some o→o.holds β w (β k))
  (hH:HdOk P obs.length (sizeS fn args) w.heap.size w β (bodyPost P fn (Said P fn obs.length res outs β w)) (mkC P (sizeS fn args) u sl ob ev) p') :
  Calls P f (args.map (SV.den β)).toArray w (Said P fn obs.length res outs β w):=by
 have hnal:∀ (k r:Nat) (D:Thing),obs[k]?≠some (.al r D):=fun k r D ho=>by
  have:=List.all_eq_true.1 hobs _ (List.mem_of_getElem? ho)
  simp [Ob.own] at this
 have huq:UniqAl obs:=fun k j i D _ h1 _=>absurd h1 (hnal k i D)
 have hlt:∀ k,k<obs.length→∀ c,(β k).F c→c<w.heap.size:=fun k hk c hc=>by
  have h:=hh k _ (List.getElem?_eq_getElem hk)
  cases hx:obs[k] with
  | box cs t=>rw [hx] at h; rw [(h.1.1 c).1 hc]; exact heap_lt h.2
  | th D=>rw [hx] at h; exact D.st.lt _ _ h c hc
  | al r D=>rw [hx] at h; exact D.st.lt _ _ h c hc
  | pl n=>rw [hx] at h; rw [(h.1.1 c).1 hc]; exact h.2.lt
  | row cs t n sz=>rw [hx] at h; rw [(h.1.1 c).1 hc]; exact heap_lt h.2.choose_spec.1
  | ow D t=>rw [hx] at h; exact D.st.lt _ _ h.2 c hc
  | dead =>
   have:=List.all_eq_true.1 hobs _ (List.mem_of_getElem? (List.getElem?_eq_getElem hk))
   rw [hx] at this
   simp [Ob.own] at this
 cases hb:fn.body with
 | none=>unfold startP at hp; rw [hb] at hp; cases hp
 | some c =>
  have hst:startP P fn args obs evs Ns m=runP P obs.length (sizeS fn args) Ns m (some c) [] ⟨startS args 0,fun k=>Nat.blt k obs.length,obs,evs,[]⟩:=by unfold startP; rw [hb]
  rw [hst] at hp he
  cases hr:runP P obs.length (sizeS fn args) Ns m (some c) [] ⟨startS args 0,fun k=>Nat.blt k obs.length,obs,evs,[]⟩ with
  | none=>rw [hr] at hp; cases hp
  | some s =>
   rw [hr] at hp he
   cases s with
   | ended f=>cases hp
   | head c1 ks1 f1 =>
    obtain rfl:(c1,ks1)=p':=Option.some.inj hp
    obtain ⟨hg,hw⟩:=pieceE_parts ev he
    obtain ⟨_,_,r3⟩:=runP_ok hm _ _ _ _ _ hr ⟨fun k=>by dsimp only; rw [Nat.blt_eq],huq⟩
    refine calls_of_wp hf hb (r3 hg (B0:=bd0 w.heap.size obs.length) (w0:=w) (β:=β) ⟨⟨Keep.refl _ _,Nat.le_refl _,fun k o hk ho=>⟨hh k o ho,(Bool.and_eq_true _ _▸List.all_eq_true.1 hobs o (List.mem_of_getElem? ho)).1⟩,fun k hk=>hlt k (by simpa [Nat.blt_eq] using hk),fun k j hk _ _ hm=>?_,fun k _ hk hm=>?_,fun k hk hm=>?_,fun i hi=>by rw [Nat.blt_eq]; exact hi,fun k r D _ ho=>?_,fun k r D _ ho=>absurd ho (hnal k r D),fun k i _ hi _ hm=>by rw [Nat.blt_eq] at hi; omega⟩,fun k=>by dsimp only; rw [Nat.blt_eq],⟨?_,fun t=>?_⟩,fun t=>?_,⟨Nat.le_refl _,Nat.le_refl _⟩,rfl,huq⟩ _ fun β' a' w' e s=>?_)
    · rw [Nat.blt_eq] at hk; omega
    · rw [Nat.blt_eq] at hk; omega
    · rw [Nat.blt_eq] at hk; omega
    · exact absurd ho (hnal k r D)
    · simp [sizeS]
    · rw [look_start,if_pos (Nat.zero_le _),Nat.sub_zero]
      simp only [Array.getD_eq_getD_getElem?,Array.getElem?_append,List.size_toArray,List.length_map,List.getElem?_toArray,List.getElem?_map]
      split
      · rename_i hlt2
        rw [List.getElem?_eq_getElem hlt2]
        rfl
      · rename_i hge
        rw [List.getElem?_eq_none (by omega)]
        simp [Array.getElem?_replicate]
        split<;>rfl
    · dsimp only
      rw [look_start,if_pos (Nat.zero_le _),Nat.sub_zero]
      cases hx:args[t]? with
      | none=>rfl
      | some x=>exact List.all_eq_true.1 hargs x (List.mem_of_getElem? hx)
    · obtain ⟨β'',e2,s2⟩:=hw s
      exact hH β'' a' w' (fun k hk=>(e2 k hk).trans (e k hk)) s2
end Go.Proofs.YtbepimnlleilfaaGreat.Y
end
section
namespace Go.Proofs.YtbepimnlleilfaaGreat
open Go.Proofs.YtbepimnlleilfaaGreat.Y
open Go Go.RowKit
set_option maxRecDepth 100000
abbrev svI (n:Int):SC:=.c (.b (.v (.int .i64 n)))
theorem sz_lit1 {n:Int} (h:n.natAbs<256):Fit (Rat.divInt n 1):=(Sz.small h).fit (by decide)
theorem fit_int {n m:Int} (h:n.natAbs<256) (k:m.natAbs<256):FitG (gint n m):=⟨sz_lit1 h,sz_lit1 k⟩
def mV (a a' b b' c c' d d':R4) (t:Bool):Array Value:=#[.bool a.b,.string a.s,.bool a.c,.string a.t,.bool a'.b,.string a'.s,.bool a'.c,.string a'.t,.bool b.b,.string b.s,.bool b.c,.string b.t,.bool b'.b,.string b'.s,.bool b'.c,.string b'.t,
 .bool c.b,.string c.s,.bool c.c,.string c.t,.bool c'.b,.string c'.s,.bool c'.c,.string c'.t,.bool d.b,.string d.s,.bool d.c,.string d.t,.bool d'.b,.string d'.s,.bool d'.c,.string d'.t,.bool t]
def gV (a a':R4):Array Value:=#[.bool a.b,.string a.s,.bool a.c,.string a.t,.bool a'.b,.string a'.s,.bool a'.c,.string a'.t]
def geq (x y x' y':R4):Bool:=x.eq x'&&(y.eq y'&&true)
theorem eqM {w:World} (n:Nat) (a a' b b' c c' d d':R4) (t:Bool) (p p' q q' r r' s s':R4) (u:Bool):(Op.equalIn (n+5) 48 (.agg (mV a a' b b' c c' d d' t)) (.agg (mV p p' q q' r r' s s' u))).run Tryz.prog w=.ok (geq a a' p p'&&(geq b b' q q'&&(geq c c' r r'&&(geq d d' s s'&&((t==u)&&true))))) w:=by
 unfold mV
 rw [run_equalIn_agg _ _ _ _ _ (by kernel_rfl) (by kernel_rfl)]
 refine run_eqF_cons (a:=.agg (gV a a')) (b:=.agg (gV p p')) (by kernel_rfl) (by kernel_rfl) (by kernel_rfl) (eqG n _ _ _ _) ?_
 refine run_eqF_cons (a:=.agg (gV b b')) (b:=.agg (gV q q')) (by kernel_rfl) (by kernel_rfl) (by kernel_rfl) (eqG n _ _ _ _) ?_
 refine run_eqF_cons (a:=.agg (gV c c')) (b:=.agg (gV r r')) (by kernel_rfl) (by kernel_rfl) (by kernel_rfl) (eqG n _ _ _ _) ?_
 refine run_eqF_cons (a:=.agg (gV d d')) (b:=.agg (gV s s')) (by kernel_rfl) (by kernel_rfl) (by kernel_rfl) (eqG n _ _ _ _) ?_
 refine run_eqF_cons (a:=.bool t) (b:=.bool u) (by kernel_rfl) (by kernel_rfl) (by kernel_rfl) (run_equalIn_bool' _ _ _ _ _ (by kernel_rfl)) ?_
 kernel_rfl
theorem geq_self (x y:R4):geq x y x y=true:=by
 unfold geq
 rw [R4.eq_iff.2 rfl,R4.eq_iff.2 rfl]; rfl
def eqEvM (a a' b b' c c' d d':R4) (t:Bool):Ev Tryz.prog :=
 eqEv 48 (mV a a' b b' c c' d d' t) (mV a a' b b' c c' d d' t) true (by kernel_rfl) (fun w=>by
  have h:=eqM (w:=w) 9995 a a' b b' c c' d d' t a a' b b' c c' d d' t
  rw [geq_self,geq_self,geq_self,geq_self,show (t==t)=true from beq_self_eq_true t] at h
  exact h)
noncomputable def sR (F:Prop) (x:Rat):R4:=⟨selB F (decide (x.num<0)),selS F (mag x.num.natAbs),false,selS F (mag x.den)⟩
noncomputable def eqMA (m:MQ):Ev Tryz.prog:=eqEvM (sR (FitM m) m.a.re) (sR (FitM m) m.a.im) (sR (FitM m) m.b.re) (sR (FitM m) m.b.im) (sR (FitM m) m.c.re) (sR (FitM m) m.c.im) (sR (FitM m) m.d.re) (sR (FitM m) m.d.im) (selB (FitM m) m.t)
abbrev svB (b:Bool):SV:=.one (.c (.b (.v (.bool b))))
abbrev pI (n m:Int):Pt:=.fin (gint n m)
theorem pI_fit {n m:Int} (h:n.natAbs<256) (k:m.natAbs<256):FitP (pI n m):=fit_int h k
theorem pI_ne {n m n' m':Int} (h:¬ (n=n'∧m=m')):pI n m≠pI n' m':=fun e=>h (by
 injection e with e
 injection e with e1 e2
 have k1:=congrArg Rat.num e1
 have k2:=congrArg Rat.num e2
 rw [(divInt_one n).1,(divInt_one n').1] at k1
 rw [(divInt_one m).1,(divInt_one m').1] at k2
 exact ⟨k1,k2⟩)
theorem fit_small {z:GQ} (h1:z.re.num.natAbs<256) (h2:z.re.den<256) (h3:z.im.num.natAbs<256) (h4:z.im.den<256):FitP (.fin z) :=
 ⟨Sz.fit (k:=1) ⟨sz_small h1,sz_small (n:=(z.re.den:Int)) (by simpa using h2)⟩ (by decide),Sz.fit (k:=1) ⟨sz_small h3,sz_small (n:=(z.im.den:Int)) (by simpa using h4)⟩ (by decide)⟩
theorem gq_lit {z w:GQ} (h1:decide (z.re=w.re)=true) (h2:decide (z.im=w.im)=true):z=w:=GQ.ext2 (of_decide_eq_true h1) (of_decide_eq_true h2)
theorem mq_ext {m n:MQ} (h1:m.a=n.a) (h2:m.b=n.b) (h3:m.c=n.c) (h4:m.d=n.d) (h5:m.t=n.t):m=n:=by cases m; cases n; cases h1; cases h2; cases h3; cases h4; cases h5; rfl
def sNum8 (k:Int):Y.Spec Tryz.prog:=Y.Spec.auto Tryz.call30 [.one (svI k)] [] (.one (svI k)) [] [] [] 400 Tryz.func30 hmA (by kernel_rfl) (fun β=>by kernel_rfl)
def sIn8 (n m:Int) (hn : -9223372036854775808≤n∧n≤9223372036854775807:=by decide) (hm : -9223372036854775808≤m∧m≤9223372036854775807:=by decide):Y.Spec Tryz.prog :=
 Y.Spec.auto Tryz.call39 [.one (svI n),.one (svI m)] [] (svG (gint n m)) [] [(sR4Int n m hn hm).e] [] 400 Tryz.func39 hmA (by kernel_rfl) (fun β=>by kernel_rfl)
def sAt8 (n m:Int) (hn : -9223372036854775808≤n∧n≤9223372036854775807:=by decide) (hm : -9223372036854775808≤m∧m≤9223372036854775807:=by decide):Y.Spec Tryz.prog :=
 Y.Spec.auto Tryz.call142 [.one (svI n),.one (svI m)] [] (svP (.fin (gint n m))) [] [(sIn8 n m hn hm).e] [] 400 Tryz.func142 hmA (by kernel_rfl) (fun β=>by kernel_rfl)
inductive T3 where
 | lo
 | mid
 | hi
def T3.at (s:ByteArray):T3→Prop
 | .lo=>decide ((120:Int)<(s.size:Int))=false
 | .mid=>decide ((120:Int)<(s.size:Int))=true∧decide ((s.size:Int)≤1024)=true
 | .hi=>decide ((120:Int)<(s.size:Int))=true∧decide ((s.size:Int)≤1024)=false
def T3.yes:T3→Bool
 | .mid=>true
 | _=>false
theorem T3.all (s:ByteArray):∃ k:T3,k.at s:=by
 cases h:decide ((120:Int)<(s.size:Int)) with
 | false=>exact ⟨.lo,h⟩
 | true=>cases h2:decide ((s.size:Int)≤1024) with
  | true=>exact ⟨.mid,h,h2⟩
  | false=>exact ⟨.hi,h,h2⟩
theorem T3.few {s:ByteArray} {k:T3} (h:k.at s) (h0:k.yes=false) (h1:s.size≤1024):s.size≤120:=by
 cases k
 · have:=of_decide_eq_false h
   omega
 · cases h0
 · have:=of_decide_eq_false h.2
   omega
theorem bool_lit {a b:Bool} (h:a=b):Value.bool a=.bool b:=by rw [h]
noncomputable def sIs8 (M:MQ):Y.Spec Tryz.prog:=Y.Spec.auto Tryz.call33 [.one (.a (maC M)),.one (svI (maK M)),svM M,.one (svI 0)] [] (svB true) []
 [(sR8Told M).e,eqMA M,(sNum8 (maK M)).e,.eqv 23 (.bool (maK M==maK M)) (.bool true) (ieq_self _)] [] 400 Tryz.func33 hmA (by kernel_rfl) (fun β=>by kernel_rfl)
def eqM0:Ev Tryz.prog:=eqEvM r40 r40 r40 r40 r40 r40 r40 r40 false
def sIs8c (k:Int):List (Ev Tryz.prog):=[eqM0,(sNum8 k).e]
end Go.Proofs.YtbepimnlleilfaaGreat
end
section
namespace Go.Proofs.YtbepimnlleilfaaGreat.Y
open Go Go.RowKit
set_option maxRecDepth 100000
theorem fit10:FitG (gint 1 0):=fit_int (by decide) (by decide)
theorem fit00:FitG (gint 0 0):=fit_int (by decide) (by decide)
def frX (x:Rat) (h:Fit x):Fr:=⟨fR x,.ok x h,rfl⟩
def gpX (z:GQ) (h:FitG z):Gp:=⟨frX z.re h.1,frX z.im h.2⟩
def sR8Det {m:MQ} (h:MSz KD m):Spec Tryz.prog :=
 Spec.auto Tryz.call153 [svM m] [] (svG (mdet m)) []
  [(sR4Times (GSz.le h.a) (GSz.le h.d)).e,(sR4Times (GSz.le h.b) (GSz.le h.c)).e,(sR4Minus (h.a.mul h.d).le (h.b.mul h.c).le).e] [(1,11)] 400 Tryz.func153 hmA (by kernel_rfl) (fun β=>by kernel_rfl)
theorem rL_inj {x y:R4} (h:rL x=rL y):x=y:=by
 obtain ⟨b,s,c,t⟩:=x
 obtain ⟨b',s',c',t'⟩:=y
 simp only [rL,List.cons.injEq,Lf.b.injEq,Lf0.v.injEq,Value.bool.injEq,Value.string.injEq,and_true] at h
 obtain ⟨rfl,rfl,rfl,rfl⟩:=h
 rfl
inductive Gn where
 | ok (z:GQ) (h:FitG z)
 | no (g:Gp) (h:g.B=false)
def Gn.gp:Gn→Gp
 | .ok z h=>gpX z h
 | .no g _=>g
def Gn.x (g:Gn):R4:=g.gp.a.r
def Gn.y (g:Gn):R4:=g.gp.b.r
def Gn.B:Gn→Bool
 | .ok ..=>true
 | .no ..=>false
theorem Gn.gpB:∀ g:Gn,g.gp.B=g.B
 | .ok ..=>rfl
 | .no _ h=>h
def Gn.z:Gn→GQ
 | .ok z _=>z
 | .no ..=>g0
theorem fr_of (r:R4) (h:r.s.size≤maxLen∧r.t.size≤maxLen):∃ a:Fr,a.r=r:=by
 obtain ⟨a,ha⟩:=fp_of r h.1 h.2
 exact ⟨⟨r,a,by rw [← ha]; cases a<;>rfl⟩,rfl⟩
theorem gn_of (x y:R4) (hx:x.s.size≤maxLen∧x.t.size≤maxLen) (hy:y.s.size≤maxLen∧y.t.size≤maxLen):∃ g:Gn,g.x=x∧g.y=y:=by
 obtain ⟨a,rfl⟩:=fr_of x hx
 obtain ⟨b,rfl⟩:=fr_of y hy
 cases h:(Gp.mk a b).B with
 | false=>exact ⟨.no ⟨a,b⟩ h,rfl,rfl⟩
 | true =>
  have h':=Bool.and_eq_true_iff.1 h
  obtain ⟨ra,fa,ea⟩:=a
  obtain ⟨rb,fb,eb⟩:=b
  cases fa with
  | no=>cases h'.1
  | ok x hx2=>cases fb with
   | no=>cases h'.2
   | ok y hy2 =>
    refine ⟨.ok ⟨x,y⟩ ⟨hx2,hy2⟩,rL_inj ?_,rL_inj ?_⟩
    · exact ea
    · exact eb
end Go.Proofs.YtbepimnlleilfaaGreat.Y
end
section
namespace Go.Proofs.YtbepimnlleilfaaGreat
open Go Go.RowKit
set_option maxRecDepth 100000
end Go.Proofs.YtbepimnlleilfaaGreat
namespace Go.Proofs.YtbepimnlleilfaaGreat.Y
open Go Go.RowKit
set_option maxRecDepth 100000
abbrev MOB:TypeId:=48
section
variable {m q:MQ} (hm:MayQ m) (hq:MayQ q)
include hm hq
end
theorem ma_fit {m:MQ} (h:FitM m):maC m=mCl m∧maK m=0:=by
 refine ⟨?_,(maC_yes h).2⟩
 unfold maC mCl
 simp only [gsC_yes h]
 rw [show selB (FitM m) m.t=m.t from if_pos h]
theorem mbeh_idr (m:MQ):mbeh m (mstill false)=m:=by
 obtain ⟨⟨a1,a2⟩,⟨b1,b2⟩,⟨c1,c2⟩,⟨d1,d2⟩,t⟩:=m
 cases t<;>(simp only [mbeh,mstill,mconj,cond_true,cond_false,gint10,gmul,gadd,gconj,g0]; congr 1<;>(congr 1<;>grind))
theorem mcmp_idr {m:MQ} (h:Nrm m):mcmp m (mstill false)=m:=by
 unfold mcmp
 rw [mbeh_idr,h.id]
end Go.Proofs.YtbepimnlleilfaaGreat.Y
end
section
namespace Go.Proofs.YtbepimnlleilfaaGreat.Y
open Go Go.RowKit
set_option maxRecDepth 100000
theorem hd_ev' {m0 N B0:Nat} {w0:World} {β0:Env} {Q:Exit→Act→World→Prop} {u:Nat} {sl:List (Nat × SV)} {ob:List Ob} {ev ev':List (Ev Tryz.prog)} {p:Code × List Kf} (h:HdOk Tryz.prog m0 N B0 w0 β0 Q (mkC Tryz.prog N u sl ob ev) p):HdOk Tryz.prog m0 N B0 w0 β0 Q (mkC Tryz.prog N u sl ob ev') p :=
 fun β a w hβ hs=>h β a w hβ (hs.ev ev)
def PwFit (X:MQ) (k:Nat):Prop:=∀ j,1≤j→j≤k→FitM (mpw X j)
abbrev KW:Nat:=10000
noncomputable abbrev mpF:Func:=Tryz.f27
abbrev mpAr (q:MQ) (n:Int):List SV:=[.one (.a (mCl q)),.one (nI' n)]
abbrev MTX:TypeId:=185
abbrev mob0L:List Lf:=lsX g0C++lsX g0C++lsX g0C++lsX g0C++[.b (.v (.bool false))]
abbrev mAl (k:Nat) (m:MQ):List Lf:=[.b (.z k 0),.b (.z (k+1) 0),.b (.z (k+2) 0),.b (.z (k+3) 0),.b (.z (k+4) 0),.b (.z (k+5) 0),.b (.z (k+6) 0),.b (.z (k+7) 0),.b (.v (.bool m.t))]
theorem fit_mid:FitM (mid false):=⟨fit10,fit00,fit00,fit10⟩
theorem pw_fit {X:MQ} {k:Nat} (h:PwFit X k):FitM (mpw X k):=by
 cases k with
 | zero=>exact fit_mid
 | succ k=>exact h (k+1) (by omega) (Nat.le_refl _)
section
variable (q:MQ) (n:Int) (X:MQ) (k:Nat)
noncomputable abbrev mpN (q:MQ) (n:Int):Nat:=sizeS mpF (mpAr q n)
abbrev mpSl (k j:Nat):List (Nat × SV):=[(4,.one (.c (.b (.p 1 0)))),(6,.one (.c (.b (.p 2 0)))),(8,.one (.c (.b (.p 3 0)))),(34,.one (nI' (k:Int))),(35,.one (nI' (j:Int)))]
abbrev mpO (X Y:MQ):List Ob:=[.dead,.box mob0L MOB,.box (mAl 4 X) MTX,.box (mAl 12 Y) MTX]++(mM X).map Thing.ob++(mM Y).map Thing.ob
noncomputable abbrev mpC (j:Nat) (ev:List (Ev Tryz.prog)):Cf Tryz.prog:=mkC Tryz.prog (mpN q n) 0 (mpSl k j) (mpO X (mpw X j)) ev
abbrev mpRY (m:MQ):SV:=.tup [.a (mCl m),nI' 0]
abbrev mpRN (c:Int):SV:=.tup [mob0,nI' c]
noncomputable abbrev mpH (r:SV) (w:World) (c:Cf Tryz.prog):Prop:=HdOk Tryz.prog 0 (mpN q n) w.heap.size w idE (bodyPost Tryz.prog mpF (Said Tryz.prog mpF 0 r [] idE w)) c (lpAt mpF 0)
end
section
variable {q:MQ} {n:Int} {X:MQ} {k:Nat} (hX:MSz KW X) (hr:Reg X) (r:SV) (w:World) {j:Nat} (hf:PwFit X j)
include hX hr hf
theorem mp_sz:MSz KM (mpw X (j+1)):=(mcmp_sz hX (fitM_sz (pw_fit hf)) (hr.beh (mpw_reg hr j))).mono (by decide)
omit hX hr in
theorem mp_y:MSz KE (mpw X j):=(fitM_sz (pw_fit hf)).mono (by decide)
noncomputable def mpBeh:Spec Tryz.prog:=sBehR (hX.mono (by decide)) (mp_y hf) (hr.beh (mpw_reg hr j))
noncomputable def mpTY (hF:FitM (mpw X (j+1))):Spec Tryz.prog:=(sToldN (mp_sz hX hr hf) (mpw_nrm hr (j+1))).conv (mpRY (mpw X (j+1))) (by
 show SV.tup [.a (lsX (maC (mpw X (j+1)))),.c (.b (.v (.int .i64 (maK (mpw X (j+1))))))]=_
 rw [(ma_fit hF).1,(ma_fit hF).2])
noncomputable def mpTN (hF:¬ FitM (mpw X (j+1))):Spec Tryz.prog:=(sToldN (mp_sz hX hr hf) (mpw_nrm hr (j+1))).conv (mpRN 4) (by
 show SV.tup [.a (lsX (maC (mpw X (j+1)))),.c (.b (.v (.int .i64 (maK (mpw X (j+1))))))]=_
 rw [(maC_no hF).1,(maC_no hF).2]
 rfl)
end
section
variable (q:MQ) (n:Int) (X:MQ) (k:Nat) (hX:MSz KW X) (hr:Reg X) (r:SV) (w:World) {j:Nat} (hf:PwFit X j)
theorem mp_step (hj:j<k) (hF:FitM (mpw X (j+1))) {j2:Int} (hj2:IntKind.i64.wrap ((j:Int)+1)=j2) (e2:j2=((j+1:Nat):Int)) (kk:mpH q n r w (mpC q n X k (j+1) [])) :
  mpH q n r w (mpC q n X k j [.eqv 36 (.bool (decide ((j:Int)<(k:Int)))) (.bool true) (by rw [decide_eq_true (by omega)]),(mpBeh hX hr hf).e,(mpTY hX hr hf hF).e,.eqv 49 (.int .i64 (IntKind.i64.wrap ((j:Int)+1))) (.int .i64 ((j+1:Nat):Int)) (by rw [hj2,e2]),.cut]) :=
 piece_ok (Ns:=[]) (m:=800) [] [0,1,2,3,4,5,6,7,8,9,10,11,20,21,22,23,24,25,26,27] hmA (by kernel_rfl) (fun β=>ok_of_maps (by kernel_rfl)) kk
theorem mp_bad (hj:j<k) (hF:¬ FitM (mpw X (j+1))) :
  mpH q n (mpRN 4) w (mpC q n X k j [.eqv 36 (.bool (decide ((j:Int)<(k:Int)))) (.bool true) (by rw [decide_eq_true (by omega)]),(mpBeh hX hr hf).e,(mpTN hX hr hf hF).e]) :=
 last_ok (Ns:=[]) (m:=800) hmA (fun β=>ok_of_maps (by kernel_rfl))
noncomputable def mpTE {X:MQ} {k:Nat} (hr:Reg X) (hf:PwFit X k):Spec Tryz.prog:=(sToldN ((fitM_sz (pw_fit hf)).mono (by decide)) (mpw_nrm hr k)).conv (mpRY (mpw X k)) (by
 show SV.tup [.a (lsX (maC (mpw X k))),.c (.b (.v (.int .i64 (maK (mpw X k)))))]=_
 rw [(ma_fit (pw_fit hf)).1,(ma_fit (pw_fit hf)).2])
theorem mp_end (hf:PwFit X k):mpH q n (mpRY (mpw X k)) w (mpC q n X k k [.eqv 36 (.bool (decide ((k:Int)<(k:Int)))) (.bool false) (by rw [decide_eq_false (by omega)]),(mpTE hr hf).e]) :=
 last_ok (Ns:=[]) (m:=800) hmA (fun β=>ok_of_maps (by kernel_rfl))
include hX hr in
theorem mp_runY (hk:k≤256) (hf:PwFit X k):∀ d j,j+d=k→mpH q n (mpRY (mpw X k)) w (mpC q n X k j [])
 | 0,j,e=>by
  obtain rfl:j=k:=by omega
  exact hd_ev' (mp_end q n X j hr w hf)
 | d+1,j,e=>hd_ev' (mp_step q n X k hX hr _ w (fun i h1 h2=>hf i h1 (by omega)) (by omega) (hf (j+1) (by omega) (by omega)) (by rw [IntKind.wrap_i64]; omega) rfl (mp_runY hk hf d (j+1) (by omega)))
include hX hr in
theorem mp_runN (hk:k≤256) {i:Nat} (hi:i<k) (hf:PwFit X i) (hF:¬ FitM (mpw X (i+1))):∀ d j,j+d=i→mpH q n (mpRN 4) w (mpC q n X k j [])
 | 0,j,e=>by
  obtain rfl:j=i:=by omega
  exact hd_ev' (mp_bad q n X k hX hr w hf hi hF)
 | d+1,j,e=>hd_ev' (mp_step q n X k hX hr _ w (fun i h1 h2=>hf i h1 (by omega)) (by omega) (hf (j+1) (by omega) (by omega)) (by rw [IntKind.wrap_i64]; omega) rfl (mp_runN hk hi hf hF d (j+1) (by omega)))
end
section
variable {q:MQ} (h:MayQ q) (n:Int) (r:SV) (w:World)
noncomputable def mpE0 (hn:n.natAbs≤256):List (Ev Tryz.prog):=[(sOpenYes h).e,.eqv 20 (.bool (decide (n < -256))) (.bool false) (by rw [decide_eq_false (by omega)]),.eqv 24 (.bool (decide (256<n))) (.bool false) (by rw [decide_eq_false (by omega)])]
include h in
theorem mp_stP (hn:n.natAbs≤256) (h0:0≤n) (kk:mpH q n r w (mpC q n q n.natAbs 0 [])):Calls Tryz.prog 27 ((mpAr q n).map (SV.den idE)).toArray w (Said Tryz.prog mpF 0 r [] idE w) :=
 sx_cut (P:=Tryz.prog) (mpAr q n) [] (mpE0 h n hn++[.eqv 28 (.bool (decide (n<0))) (.bool false) (by rw [decide_eq_false (by omega)]),sStill.e,.eqv 34 (.int .i64 n) (.int .i64 (n.natAbs:Int)) (by rw [show (n.natAbs:Int)=n by omega]),.cut]) [] [] 800 r [] Tryz.func27 hmA (u:=0) (sl:=mpSl n.natAbs 0) (ob:=mpO q (mpw q 0)) (σ:=[0,1,10,19,2,3,4,5,6,7,8,9,11,12,13,14,15,16,17,18]) (p':=lpAt mpF 0) (by kernel_rfl) (fun β=>ok_of_maps (by kernel_rfl)) (by kernel_rfl) (by kernel_rfl) idE w (fun i o ho=>by simp at ho) kk
include h in
theorem mp_stN (hn:n.natAbs≤256) (h0:n<0) (kk:mpH q n r w (mpC q n (minv q) n.natAbs 0 [])):Calls Tryz.prog 27 ((mpAr q n).map (SV.den idE)).toArray w (Said Tryz.prog mpF 0 r [] idE w) :=
 sx_cut (P:=Tryz.prog) (mpAr q n) [] (mpE0 h n hn++[.eqv 28 (.bool (decide (n<0))) (.bool true) (by rw [decide_eq_true h0]),(sUndoR ((fitM_sz h.1).mono (by decide)) h.reg).e,.eqv 32 (.int .i64 (IntKind.i64.wrap (0-n))) (.int .i64 (n.natAbs:Int)) (by rw [IntKind.wrap_i64]; congr 1; omega),sStill.e,.cut]) [] [] 800 r [] Tryz.func27 hmA (u:=0) (sl:=mpSl n.natAbs 0) (ob:=mpO (minv q) (mpw (minv q) 0)) (σ:=[0,1,10,27,11,12,13,14,15,16,17,18,19,20,21,22,23,24,25,26]) (p':=lpAt mpF 0) (by kernel_rfl) (fun β=>ok_of_maps (by kernel_rfl)) (by kernel_rfl) (by kernel_rfl) idE w (fun i o ho=>by simp at ho) kk
end
def pwB (q:MQ) (n:Int):MQ:=if 0≤n then q else minv q
section
variable {q:MQ} (h:MayQ q) {n:Int} (hn:n.natAbs≤256)
include h in
theorem pwB_ok:MSz KW (pwB q n)∧Reg (pwB q n):=by
 unfold pwB
 split
 · exact ⟨(fitM_sz h.1).mono (by decide),h.reg⟩
 · exact ⟨(minv_sz (fitM_sz h.1) (minv_reg h.reg)).mono (by decide),(minv_reg h.reg).mnorm⟩
include h hn in
theorem mp_start (r:SV) (w:World) (kk:mpH q n r w (mpC q n (pwB q n) n.natAbs 0 [])):Calls Tryz.prog 27 ((mpAr q n).map (SV.den idE)).toArray w (Said Tryz.prog mpF 0 r [] idE w):=by
 unfold pwB at kk
 split at kk
 · rename_i h0
   exact mp_stP h n r w hn h0 kk
 · rename_i h0
   exact mp_stN h n r w hn (by omega) kk
theorem mpAr_c (q:MQ) (n:Int) (β:Env):((mpAr q n).map (SV.den β)).toArray=((mpAr q n).map (SV.den idE)).toArray:=rfl
noncomputable def sPwY (hf:PwFit (pwB q n) n.natAbs):Spec Tryz.prog :=
 ⟨27,Tryz.call27,mpAr q n,[],mpRY (mpw (pwB q n) n.natAbs),[],fun β w hh=>by
  rw [mpAr_c q n β]
  refine (mp_start h hn _ w (mp_runY q n (pwB q n) n.natAbs (pwB_ok h).1 (pwB_ok h).2 w hn hf n.natAbs 0 (by omega))).mono fun e w' k=>?_
  obtain ⟨β',q',obj,_,rfl,_,_,_,g⟩:=k
  exact ⟨[],(fun x hx=>by cases hx),rfl,trivial,g.bel⟩,by kernel_rfl⟩
noncomputable def sPwN {i:Nat} (hi:i<n.natAbs) (hf:PwFit (pwB q n) i) (hF:¬ FitM (mpw (pwB q n) (i+1))):Spec Tryz.prog :=
 ⟨27,Tryz.call27,mpAr q n,[],mpRN 4,[],fun β w hh=>by
  rw [mpAr_c q n β]
  refine (mp_start h hn _ w (mp_runN q n (pwB q n) n.natAbs (pwB_ok h).1 (pwB_ok h).2 w hn hi hf hF i 0 (by omega))).mono fun e w' k=>?_
  obtain ⟨β',q',obj,_,rfl,_,_,_,g⟩:=k
  exact ⟨[],(fun x hx=>by cases hx),rfl,trivial,g.bel⟩,by kernel_rfl⟩
noncomputable def sPwLo (h2:n < -256):Spec Tryz.prog :=
 Spec.auto Tryz.call27 (mpAr q n) [] (mpRN 2) [] [(sOpenYes h).e,.eqv 20 (.bool (decide (n < -256))) (.bool true) (by rw [decide_eq_true h2])] [] 800 Tryz.func27 hmA (by kernel_rfl) (fun β=>by kernel_rfl)
noncomputable def sPwHi (h2:256<n):Spec Tryz.prog :=
 Spec.auto Tryz.call27 (mpAr q n) [] (mpRN 2) [] [(sOpenYes h).e,.eqv 20 (.bool (decide (n < -256))) (.bool false) (by rw [decide_eq_false (by omega)]),.eqv 24 (.bool (decide (256<n))) (.bool true) (by rw [decide_eq_true h2])] [] 800 Tryz.func27 hmA (by kernel_rfl) (fun β=>by kernel_rfl)
end
noncomputable def sPwNo {m:Mp} {t:Bool} (h:OpenNo m t) (n:Int):Spec Tryz.prog :=
 Spec.auto Tryz.call27 [.one (.a m.C),.one (nI' n)] [] (mpRN 2) [] [(sOpenNo h).e] [] 800 Tryz.func27 hmA (by kernel_rfl) (fun β=>by kernel_rfl)
open Classical in
theorem pw_cases (X:MQ):∀ k,PwFit X k∨∃ i,i<k∧PwFit X i∧¬ FitM (mpw X (i+1))
 | 0=>.inl fun j h1 h2=>by omega
 | k+1=>by
  rcases pw_cases X k with h | ⟨i,h1,h2,h3⟩
  · by_cases hF:FitM (mpw X (k+1))
    · refine .inl fun j h1 h2=>?_
      rcases Nat.lt_succ_iff_lt_or_eq.1 (Nat.lt_succ_of_le h2) with h3 | rfl
      · exact h j h1 (by omega)
      · exact hF
    · exact .inr ⟨k,Nat.lt_succ_self k,h,hF⟩
  · exact .inr ⟨i,by omega,h2,h3⟩
end Go.Proofs.YtbepimnlleilfaaGreat.Y
end
section
namespace Go.Proofs.YtbepimnlleilfaaGreat
open Go.Proofs.YtbepimnlleilfaaGreat.Y
def IZ (k n:Nat) (z:GQ):Prop:=∃ u v w:Int,w≠0∧u.natAbs<256^k∧v.natAbs<256^k∧w.natAbs<256^n∧z.re*w=u∧z.im*w=v
theorem pow_mono {i j:Nat} (h:i≤j):256^i≤256^j:=Nat.pow_le_pow_right (by decide) h
theorem mul_lt {a b:Int} {i j:Nat} (h:a.natAbs<256^i) (k:b.natAbs<256^j):(a*b).natAbs<256^(i+j):=by
 rw [Int.natAbs_mul,Nat.pow_add]
 exact Nat.mul_lt_mul'' h k
theorem add_lt {a b:Int} {i:Nat} (h:a.natAbs<256^i) (k:b.natAbs<256^i):(a+b).natAbs<256^(i+1):=by
 have:=Int.natAbs_add_le a b
 rw [Nat.pow_succ]
 omega
theorem sub_lt {a b:Int} {i:Nat} (h:a.natAbs<256^i) (k:b.natAbs<256^i):(a-b).natAbs<256^(i+1):=by
 have:=Int.natAbs_sub_le a b
 rw [Nat.pow_succ]
 omega
theorem cst_mul (a b:Int):((a*b:Int):Rat)=(a:Rat)*b:=Rat.intCast_mul a b
theorem cst_add (a b:Int):((a+b:Int):Rat)=(a:Rat)+b:=Rat.intCast_add a b
theorem cst_sub (a b:Int):((a-b:Int):Rat)=(a:Rat)-b:=Rat.intCast_sub a b
theorem sz_over {x:Rat} {u w:Int} {k n:Nat} (h0:w≠0) (hu:u.natAbs<256^k) (hw:w.natAbs<256^n) (h:x*w=u) (hn:1≤k):Sz (max k n) x:=by
 have hw0:(w:Rat)≠0:=fun e=>h0 (by exact_mod_cast e)
 have hx:x=Rat.divInt u w:=by
  rw [Rat.divInt_eq_div,← h]
  grind
 rw [hx]
 exact (sz_divInt (k:=max k n) h0 (sz_le.2 (Nat.lt_of_lt_of_le hu (pow_mono (Nat.le_max_left ..)))) (sz_le.2 (Nat.lt_of_lt_of_le hw (pow_mono (Nat.le_max_right ..)))))
theorem IZ.div {i j k l m:Nat} {z w:GQ} (h:IZ i j z) (k':IZ k l w) (w0:w≠0) (hm:2*k+1≤m):IZ (i+k+1+l) (j+m) (gdiv z w):=by
 obtain ⟨u,v,x,h0,h1,h2,h3,h4,h5⟩:=h
 obtain ⟨u',v',x',k0,k1,k2,k3,k4,k5⟩:=k'
 have x0:(x':Rat)≠0:=fun e=>k0 (by exact_mod_cast e)
 have n0:gnorm w≠0:=fun e=>w0 ((gnorm_zero e).trans g0_def)
 have nn:((u'*u'+v'*v':Int):Rat)=gnorm w*(x'*x'):=by
  simp only [gnorm,cst_mul,cst_add,← k4,← k5]; grind
 have d0:u'*u'+v'*v'≠0:=by
  intro e
  rw [e] at nn
  have:gnorm w*((x':Rat)*x')=0:=nn.symm
  rcases Rat.mul_eq_zero.1 this with h | h
  · exact n0 h
  · rcases Rat.mul_eq_zero.1 h with h | h<;>exact x0 h
 have iv:(gnorm w)⁻¹*gnorm w=1:=Rat.inv_mul_cancel _ n0
 have dl:(u'*u'+v'*v').natAbs<256^m :=
  Nat.lt_of_lt_of_le (add_lt (mul_lt k1 k1) (mul_lt k2 k2)) (pow_mono (by omega))
 refine ⟨(u*u'+v*v')*x',(v*u'-u*v')*x',x*(u'*u'+v'*v'),Int.mul_ne_zero h0 d0,mul_lt (add_lt (mul_lt h1 k1) (mul_lt h2 k2)) k3,mul_lt (sub_lt (mul_lt h2 k1) (mul_lt h1 k2)) k3,mul_lt h3 dl,?_,?_⟩
 · rw [cst_mul x,nn]
   simp only [gdiv,gscale,gmul,gconj,cst_mul,cst_add,← h4,← h5,← k4,← k5]
   grind
 · rw [cst_mul x,nn]
   simp only [gdiv,gscale,gmul,gconj,cst_mul,cst_sub,← h4,← h5,← k4,← k5]
   grind
theorem g1re:(1:GQ).re=1:=by rw [← g1_def]; simp [gint,Rat.divInt_eq_div]<;>grind
theorem g1im:(1:GQ).im=0:=by rw [← g1_def]; simp [gint,Rat.divInt_eq_div]<;>grind
theorem IZ.one:IZ 1 1 (1:GQ):=⟨1,0,1,by decide,by decide,by decide,by decide,by simpa using g1re,by simpa using g1im⟩
def GI (k:Nat) (z:GQ):Prop:=∃ u v:Int,u.natAbs<256^k∧v.natAbs<256^k∧z.re=u∧z.im=v
theorem GI.mul {i k:Nat} {z w:GQ} (h:GI i z) (g:GI k w):GI (i+k+1) (z*w):=by
 obtain ⟨u,v,h1,h2,h3,h4⟩:=h
 obtain ⟨s,t,g1,g2,g3,g4⟩:=g
 refine ⟨u*s-v*t,u*t+v*s,sub_lt (mul_lt h1 g1) (mul_lt h2 g2),add_lt (mul_lt h1 g2) (mul_lt h2 g1),?_,?_⟩
 · show z.re*w.re-z.im*w.im=_
   rw [cst_sub,cst_mul,cst_mul,h3,h4,g3,g4]
 · show z.re*w.im+z.im*w.re=_
   rw [cst_add,cst_mul,cst_mul,h3,h4,g3,g4]
theorem GI.add {i:Nat} {z w:GQ} (h:GI i z) (g:GI i w):GI (i+1) (z+w):=by
 obtain ⟨u,v,h1,h2,h3,h4⟩:=h
 obtain ⟨s,t,g1,g2,g3,g4⟩:=g
 refine ⟨u+s,v+t,add_lt h1 g1,add_lt h2 g2,?_,?_⟩
 · show z.re+w.re=_
   rw [cst_add,h3,g3]
 · show z.im+w.im=_
   rw [cst_add,h4,g4]
theorem GI.mcj {i:Nat} {z:GQ} (t:Bool) (h:GI i z):GI i (mcj t z):=by
 cases t
 · exact h
 · obtain ⟨u,v,h1,h2,h3,h4⟩:=h
   refine ⟨u,-v,h1,by rw [Int.natAbs_neg]; exact h2,h3,?_⟩
   show -z.im=_
   rw [Rat.intCast_neg,h4]
theorem GI.iz {k:Nat} {z:GQ} (h:GI k z):IZ k 1 z:=by
 obtain ⟨u,v,h1,h2,h3,h4⟩:=h
 refine ⟨u,v,1,by decide,h1,h2,by decide,?_,?_⟩
 · rw [h3,Rat.intCast_one,Rat.mul_one]
 · rw [h4,Rat.intCast_one,Rat.mul_one]
structure MGI (k:Nat) (m:MQ):Prop where
 a:GI k m.a
 b:GI k m.b
 c:GI k m.c
 d:GI k m.d
theorem MGI.beh {i k:Nat} {m n:MQ} (h:MGI i m) (g:MGI k n):MGI (i+k+2) (mbeh m n) :=
 ⟨(h.a.mul (g.a.mcj _)).add (h.b.mul (g.c.mcj _)),(h.a.mul (g.b.mcj _)).add (h.b.mul (g.d.mcj _)),(h.c.mul (g.a.mcj _)).add (h.d.mul (g.c.mcj _)),(h.c.mul (g.b.mcj _)).add (h.d.mul (g.d.mcj _))⟩
theorem GI.lit (n:Int) (h:n.natAbs<256):GI 1 (gint n 0):=⟨n,0,by simpa using h,by decide,by simp [gint,Rat.divInt_eq_div]<;>grind,by simp [gint,Rat.divInt_eq_div]<;>grind⟩
theorem mid_gi:MGI 1 (mid false):=⟨GI.lit 1 (by decide),GI.lit 0 (by decide),GI.lit 0 (by decide),GI.lit 1 (by decide)⟩
theorem mrw_gi {k:Nat} {m:MQ} (h:MGI k m):∀ n,MGI (n*(k+2)+1) (mrw m n)
 | 0=>by rw [Nat.zero_mul]; exact mid_gi
 | n+1=>by
  have:=h.beh (mrw_gi h n)
  rw [show k+(n*(k+2)+1)+2=(n+1)*(k+2)+1 by rw [Nat.succ_mul]; omega] at this
  exact this
theorem den8 {k:Nat} {m:MQ} (h:MSz k m):∃ (V:Int) (m':MQ),V≠0∧Mli m m'∧MGI (8*k) m':=by
 have nz:∀ x:Rat,(x.den:Int)≠0:=fun x=>by have:=x.den_nz; omega
 have key:∀ {x:Rat},Sz k x→x.num.natAbs<256^k∧((x.den:Int)).natAbs<256^k:=fun hx=>⟨sz_le.1 hx.1,sz_le.1 hx.2⟩
 obtain ⟨n1,d1⟩:=key h.a.1
 obtain ⟨n2,d2⟩:=key h.a.2
 obtain ⟨n3,d3⟩:=key h.b.1
 obtain ⟨n4,d4⟩:=key h.b.2
 obtain ⟨n5,d5⟩:=key h.c.1
 obtain ⟨n6,d6⟩:=key h.c.2
 obtain ⟨n7,d7⟩:=key h.d.1
 obtain ⟨n8,d8⟩:=key h.d.2
 have r1:=rat_nd m.a.re
 have r2:=rat_nd m.a.im
 have r3:=rat_nd m.b.re
 have r4:=rat_nd m.b.im
 have r5:=rat_nd m.c.re
 have r6:=rat_nd m.c.im
 have r7:=rat_nd m.d.re
 have r8:=rat_nd m.d.im
 have z1:=nz m.a.re
 have z2:=nz m.a.im
 have z3:=nz m.b.re
 have z4:=nz m.b.im
 have z5:=nz m.c.re
 have z6:=nz m.c.im
 have z7:=nz m.d.re
 have z8:=nz m.d.im
 obtain ⟨⟨a1,a2⟩,⟨b1,b2⟩,⟨c1,c2⟩,⟨e1,e2⟩,t⟩:=m
 dsimp only at *
 generalize a1.num=p1 at *
 generalize (a1.den:Int)=q1 at *
 generalize a2.num=p2 at *
 generalize (a2.den:Int)=q2 at *
 generalize b1.num=p3 at *
 generalize (b1.den:Int)=q3 at *
 generalize b2.num=p4 at *
 generalize (b2.den:Int)=q4 at *
 generalize c1.num=p5 at *
 generalize (c1.den:Int)=q5 at *
 generalize c2.num=p6 at *
 generalize (c2.den:Int)=q6 at *
 generalize e1.num=p7 at *
 generalize (e1.den:Int)=q7 at *
 generalize e2.num=p8 at *
 generalize (e2.den:Int)=q8 at *
 have e:k+(k+(k+(k+(k+(k+(k+k))))))≤8*k:=by omega
 have prod:∀ {x1 x2 x3 x4 x5 x6 x7 x8:Int},x1.natAbs<256^k→x2.natAbs<256^k→x3.natAbs<256^k→x4.natAbs<256^k→x5.natAbs<256^k→x6.natAbs<256^k→x7.natAbs<256^k→x8.natAbs<256^k→(x1*(x2*(x3*(x4*(x5*(x6*(x7*x8))))))).natAbs<256^(8*k) :=
  fun h1 h2 h3 h4 h5 h6 h7 h8=>Nat.lt_of_lt_of_le (mul_lt h1 (mul_lt h2 (mul_lt h3 (mul_lt h4 (mul_lt h5 (mul_lt h6 (mul_lt h7 h8))))))) (pow_mono e)
 have V0:q1*(q2*(q3*(q4*(q5*(q6*(q7*q8))))))≠0:=Int.mul_ne_zero z1 (Int.mul_ne_zero z2 (Int.mul_ne_zero z3 (Int.mul_ne_zero z4 (Int.mul_ne_zero z5 (Int.mul_ne_zero z6 (Int.mul_ne_zero z7 z8))))))
 refine ⟨_,⟨⟨((p1*(q2*(q3*(q4*(q5*(q6*(q7*q8)))))):Int):Rat),((q1*(p2*(q3*(q4*(q5*(q6*(q7*q8)))))):Int):Rat)⟩,⟨((q1*(q2*(p3*(q4*(q5*(q6*(q7*q8)))))):Int):Rat),((q1*(q2*(q3*(p4*(q5*(q6*(q7*q8)))))):Int):Rat)⟩,⟨((q1*(q2*(q3*(q4*(p5*(q6*(q7*q8)))))):Int):Rat),((q1*(q2*(q3*(q4*(q5*(p6*(q7*q8)))))):Int):Rat)⟩,⟨((q1*(q2*(q3*(q4*(q5*(q6*(p7*q8)))))):Int):Rat),((q1*(q2*(q3*(q4*(q5*(q6*(q7*p8)))))):Int):Rat)⟩,t⟩,V0,?_,?_⟩
 · refine Mli.sy ⟨⟨((q1*(q2*(q3*(q4*(q5*(q6*(q7*q8)))))):Int):Rat),0⟩,fun e=>V0 ?_,?_,?_,?_,?_,rfl⟩
   · have h:=congrArg GQ.re e
     have h:((q1*(q2*(q3*(q4*(q5*(q6*(q7*q8)))))):Int):Rat)=0:=h
     exact_mod_cast h
   all_goals
    refine GQ.ext2 ?_ ?_
    · show _=_*_-0*_
      simp only [cst_mul]
      grind
    · show _=_*_+0*_
      simp only [cst_mul]
      grind
 · exact ⟨⟨_,_,prod n1 d2 d3 d4 d5 d6 d7 d8,prod d1 n2 d3 d4 d5 d6 d7 d8,rfl,rfl⟩,⟨_,_,prod d1 d2 n3 d4 d5 d6 d7 d8,prod d1 d2 d3 n4 d5 d6 d7 d8,rfl,rfl⟩,⟨_,_,prod d1 d2 d3 d4 n5 d6 d7 d8,prod d1 d2 d3 d4 d5 n6 d7 d8,rfl,rfl⟩,⟨_,_,prod d1 d2 d3 d4 d5 d6 n7 d8,prod d1 d2 d3 d4 d5 d6 d7 n8,rfl,rfl⟩⟩
theorem iz_sz {k n:Nat} {z:GQ} (h:IZ k n z) (hk:1≤k):GSz (max k n) z:=by
 obtain ⟨u,v,w,w0,h1,h2,h3,h4,h5⟩:=h
 exact ⟨sz_over w0 h1 h3 h4 hk,sz_over w0 h2 h3 h5 hk⟩
theorem MGI.norm {k:Nat} {m:MQ} (h:MGI k m) (hr:Reg m):MSz (2*k+2) (mnorm m):=by
 have h0:=hr.by_ rfl
 have h0:(bif gzero m.c then m.d else m.c)≠0:=fun e=>h0 (e.trans g0_def.symm)
 have hu:GI k (bif gzero m.c then m.d else m.c):=by
  cases gzero m.c
  · exact h.c
  · exact h.d
 have key:∀ {z:GQ},GI k z→GSz (2*k+2) (gdiv z (bif gzero m.c then m.d else m.c)):=fun {z} hz =>
  GSz.mono (iz_sz (hz.iz.div hu.iz h0 (Nat.le_refl _)) (by omega)) (by omega)
 exact ⟨key h.a,key h.b,key h.c,key h.d⟩
theorem mpw_long {s:Nat} {m:MQ} (h:MSz s m) (hr:Reg m) (n:Nat):MSz (2*(n*(8*s+2)+1)+2) (mpw m n):=by
 obtain ⟨V,m',v0,hl,hg⟩:=den8 h
 have hr':Reg m':=hl.sy.det hr
 rw [mpw_eq hr,(mrw_li hl n).eq (mrw_reg hr' n)]
 exact (mrw_gi hg n).norm (mrw_reg hr' n)
end Go.Proofs.YtbepimnlleilfaaGreat
end
section
namespace Go.Proofs.YtbepimnlleilfaaGreat.Y
open Go Go.RowKit
set_option maxRecDepth 100000
theorem geq_z {z w:GQ}:geq (fR z.re) (fR z.im) (fR w.re) (fR w.im)=true↔z=w:=by
 unfold geq
 rw [Bool.and_eq_true,Bool.and_eq_true,R4.eq_iff,R4.eq_iff]
 constructor
 · rintro ⟨h1,h2,_⟩
   exact GQ.ext2 (fR_inj h1) (fR_inj h2)
 · intro e
   rw [e]
   exact ⟨rfl,rfl,rfl⟩
theorem mm_iff {m n:MQ} {r:Bool} (h:r=true↔m=n):(geq (fR m.a.re) (fR m.a.im) (fR n.a.re) (fR n.a.im)&&(geq (fR m.b.re) (fR m.b.im) (fR n.b.re) (fR n.b.im)&&(geq (fR m.c.re) (fR m.c.im) (fR n.c.re) (fR n.c.im)&&(geq (fR m.d.re) (fR m.d.im) (fR n.d.re) (fR n.d.im)&&((m.t==n.t)&&true)))))=r:=by
 rw [Bool.eq_iff_iff,h,Bool.and_eq_true,Bool.and_eq_true,Bool.and_eq_true,Bool.and_eq_true,Bool.and_eq_true,geq_z,geq_z,geq_z,geq_z,beq_iff_eq]
 constructor
 · rintro ⟨h1,h2,h3,h4,h5,_⟩
   exact MQ.ext2 h1 h2 h3 h4 h5
 · intro e
   rw [e]
   exact ⟨rfl,rfl,rfl,rfl,rfl,rfl⟩
def eqMM (m n:MQ) {r:Bool} (h:r=true↔m=n):Ev Tryz.prog :=
 eqEv 48 (Go.Proofs.YtbepimnlleilfaaGreat.mV (fR m.a.re) (fR m.a.im) (fR m.b.re) (fR m.b.im) (fR m.c.re) (fR m.c.im) (fR m.d.re) (fR m.d.im) m.t) (Go.Proofs.YtbepimnlleilfaaGreat.mV (fR n.a.re) (fR n.a.im) (fR n.b.re) (fR n.b.im) (fR n.c.re) (fR n.c.im) (fR n.d.re) (fR n.d.im) n.t) r (by kernel_rfl) (fun w=>by
  have k:=eqM (w:=w) 9995 (fR m.a.re) (fR m.a.im) (fR m.b.re) (fR m.b.im) (fR m.c.re) (fR m.c.im) (fR m.d.re) (fR m.d.im) m.t (fR n.a.re) (fR n.a.im) (fR n.b.re) (fR n.b.im) (fR n.c.re) (fR n.c.im) (fR n.d.re) (fR n.d.im) n.t
  rw [mm_iff h] at k
  exact k)
def pwX (m:MQ):Nat→MQ
 | 0=>mid false
 | 1=>m
 | k+2=>mcmp m (pwX m (k+1))
theorem pwX_eq {m:MQ} (h:Nrm m):∀ k,pwX m k=mpw m k
 | 0=>rfl
 | 1=>(mcmp_idr h).symm
 | k+2=>by
  show mcmp m (pwX m (k+1))=mcmp m (mpw m (k+1))
  rw [pwX_eq h (k+1)]
noncomputable abbrev rodF:Func:=Tryz.f31
abbrev rodAr (q:MQ):List SV:=[.one (.a (mC q))]
abbrev rodNs:List (Nat × Nat):=[(5,3)]
section
variable (q:MQ)
noncomputable abbrev rodN (q:MQ):Nat:=sizeS rodF (rodAr q)
abbrev rodSl (n:Nat):List (Nat × SV):=[(1,.one (.c (.b (.p 1 0)))),(3,.one (.c (.b (.p 2 0)))),(4,.one (nI' (n:Int)))]
noncomputable abbrev rodC (k:Nat) (ev:List (Ev Tryz.prog)):Cf Tryz.prog:=mkC Tryz.prog (rodN q) 0 (rodSl (k+1)) [.dead,.box (mC q) MOB,.box (mC (pwX q (k+1))) MOB] ev
noncomputable abbrev rodH (r:SV) (w:World) (c:Cf Tryz.prog):Prop:=HdOk Tryz.prog 0 (rodN q) w.heap.size w idE (bodyPost Tryz.prog rodF (Said Tryz.prog rodF 0 r [] idE w)) c (lpAt rodF 0)
variable {s:Nat} (hs:MSz 120 q) (hr:Reg q) (hN:Nrm q) (r:SV) (w:World) {k:Nat}
noncomputable def rodE (hk:k<12) {b:Bool} (hb:b=true↔pwX q (k+1)=mid false):List (Ev Tryz.prog):=[.eqv 7 (.bool (decide (((k+1:Nat):Int)≤12))) (.bool true) (by rw [decide_eq_true (by omega)]),sR8One.e,eqMM (pwX q (k+1)) (mid false) hb]
include hs hr hN in
theorem rod_sz (hk:k<12):MSz KD (pwX q (k+1))∧Reg (pwX q (k+1)):=by
 rw [pwX_eq hN]
 refine ⟨(mpw_long hs hr (k+1)).mono ?_,mpw_reg hr _⟩
 show 2*((k+1)*(8*120+2)+1)+2≤1000000
 have:(k+1)*(8*120+2)≤12*(8*120+2):=Nat.mul_le_mul_right _ (by omega)
 omega
theorem rod_step (hk:k<12) (hb:false=true↔pwX q (k+1)=mid false) {j2:Int} (hj2:IntKind.i64.wrap (((k+1:Nat):Int)+1)=j2) (e2:j2=((k+1+1:Nat):Int)) (kk:rodH q r w (rodC q (k+1) [])) :
  rodH q r w (rodC q k (rodE q hk hb++[(sR8Compose (hs.mono (by decide)) (rod_sz q hs hr hN hk).1 (hr.beh (rod_sz q hs hr hN hk).2)).e,.eqv 9 (.int .i64 (IntKind.i64.wrap (((k+1:Nat):Int)+1))) (.int .i64 ((k+1+1:Nat):Int)) (by rw [hj2,e2]),.cut])) :=
 piece_ok (Ns:=rodNs) (m:=800) [] [0,1,2] hmA (by kernel_rfl) (fun β=>ok_of_maps (by kernel_rfl)) kk
theorem rod_yes (hk:k<12) (hb:true=true↔pwX q (k+1)=mid false):rodH q (.one (nI' ((k+1:Nat):Int))) w (rodC q k (rodE q hk hb)) :=
 last_ok (Ns:=rodNs) (m:=800) hmA (fun β=>ok_of_maps (by kernel_rfl))
theorem rod_end:rodH q (.one (nI' 0)) w (rodC q 12 [.eqv 7 (.bool (decide (((12+1:Nat):Int)≤12))) (.bool false) (by rw [decide_eq_false (by decide)])]) :=
 last_ok (Ns:=rodNs) (m:=800) hmA (fun β=>ok_of_maps (by kernel_rfl))
include hs hr hN in
theorem rod_run {t:Nat} (ht:t≤12) (hb:∀ k,k<t→pwX q (k+1)≠mid false) (kk:rodH q r w (rodC q t [])):∀ d k,k+d=t→rodH q r w (rodC q k [])
 | 0,k,e=>by
  obtain rfl:k=t:=by omega
  exact kk
 | d+1,k,e=>hd_ev' (rod_step q hs hr hN r w (by omega) ⟨(fun h=>by cases h),fun h=>absurd h (hb k (by omega))⟩ (j2:=((k+1+1:Nat):Int)) (by rw [IntKind.wrap_i64]; omega) rfl (rod_run ht hb kk d (k+1) (by omega)))
theorem rod_start (kk:rodH q r w (rodC q 0 [])):Calls Tryz.prog 31 ((rodAr q).map (SV.den idE)).toArray w (Said Tryz.prog rodF 0 r [] idE w) :=
 sx_cut (P:=Tryz.prog) (rodAr q) [] [.cut] [] rodNs 800 r [] Tryz.func31 hmA (u:=0) (sl:=rodSl 1) (ob:=[.dead,.box (mC q) MOB,.box (mC (pwX q 1)) MOB]) (σ:=[0,0,1]) (p':=lpAt rodF 0) (by kernel_rfl) (fun β=>ok_of_maps (by kernel_rfl)) (by kernel_rfl) (by kernel_rfl) idE w (fun i o ho=>by simp at ho) kk
end
theorem rodAr_c (q:MQ) (β:Env):((rodAr q).map (SV.den β)).toArray=((rodAr q).map (SV.den idE)).toArray:=rfl
noncomputable def sROrd {q:MQ} (hs:MSz 120 q) (hr:Reg q) (hN:Nrm q) {o:Nat} (h:FirstP q o):Spec Tryz.prog :=
 ⟨31,Tryz.call31,rodAr q,[],.one (nI' (o:Int)),[],fun β w hh=>by
  rw [rodAr_c q β]
  have fin:∀ {e w'},Said Tryz.prog rodF 0 (.one (nI' (o:Int))) [] idE w e w'→∃ xs:List Pl,freshS β w 0 xs∧e=.returned ((SV.one (nI' (o:Int))).den (extE β 0 xs))∧newHold w' [] xs∧Below w.heap.size w w':=fun {e w'} k=>by
   obtain ⟨β',q',obj,_,rfl,_,_,_,g⟩:=k
   exact ⟨[],(fun x hx=>by cases hx),rfl,trivial,g.bel⟩
  refine (rod_start q _ w ?_).mono fun e w' k=>fin k
  rcases h with ⟨rfl,h⟩ | ⟨h1,h2,h3,h4⟩
  · exact rod_run q hs hr hN _ w (Nat.le_refl 12) (fun k hk e=>h (k+1) (by omega) (by omega) (by rw [← pwX_eq hN]; exact e)) (hd_ev' (rod_end q w)) 12 0 rfl
  · obtain ⟨k,rfl⟩:∃ k,o=k+1:=⟨o-1,by omega⟩
    exact rod_run q hs hr hN _ w (t:=k) (by omega) (fun j hj e=>h4 (j+1) (by omega) (by omega) (by rw [← pwX_eq hN]; exact e)) (hd_ev' (rod_yes q w (by omega) ⟨fun _=>by rw [pwX_eq hN]; exact h3,fun _=>rfl⟩)) k 0 (by omega),by kernel_rfl⟩
noncomputable abbrev rpF:Func:=Tryz.f32
abbrev rpAr (q:MQ) (n:Int):List SV:=[.one (.a (mC q)),.one (nI' n)]
section
variable (q:MQ) (n:Int) (X:MQ) (N:Int) {k:Nat} (hNk:N=(k:Int))
noncomputable abbrev rpN (q:MQ) (n:Int):Nat:=sizeS rpF (rpAr q n)
abbrev rpSl (j:Nat):List (Nat × SV):=[(1,.one (nI' N)),(2,.one (.c (.b (.p 2 0)))),(4,.one (.c (.b (.p 1 0)))),(6,.one (.c (.b (.p 3 0)))),(7,.one (nI' (j:Int)))]
noncomputable abbrev rpC (j:Nat) (ev:List (Ev Tryz.prog)):Cf Tryz.prog:=mkC Tryz.prog (rpN q n) 0 (rpSl N j) [.dead,.box mob0L MOB,.box (mC X) MOB,.box (mC (mpw X j)) MOB] ev
abbrev rpRY (m:MQ):SV:=.tup [.a (mC m),nI' 0]
noncomputable abbrev rpH (r:SV) (w:World) (c:Cf Tryz.prog):Prop:=HdOk Tryz.prog 0 (rpN q n) w.heap.size w idE (bodyPost Tryz.prog rpF (Said Tryz.prog rpF 0 r [] idE w)) c (lpAt rpF 0)
variable (hX:MSz KW X) (hr:Reg X) (r:SV) (w:World) {j:Nat} (hf:PwFit X j)
noncomputable def rpCm {X:MQ} (hX:MSz KW X) (hr:Reg X) {j:Nat} (hf:PwFit X j):Y.Spec Tryz.prog:=sR8Compose (hX.mono (by decide)) ((fitM_sz (pw_fit hf)).mono (by decide)) (hr.beh (mpw_reg hr j))
theorem rp_step (hj:j<k) (hF:FitM (mpw X (j+1))) {j2:Int} (hj2:IntKind.i64.wrap ((j:Int)+1)=j2) (e2:j2=((j+1:Nat):Int)) (kk:rpH q n r w (rpC q n X N (j+1) [])) :
  rpH q n r w (rpC q n X N j [.eqv 17 (.bool (decide ((j:Int)<N))) (.bool true) (by rw [decide_eq_true (by omega)]),(rpCm hX hr hf).e,(sR8Fits (mpw X (j+1)) (b:=true) (iff_true_of hF)).e,.eqv 19 (.int .i64 (IntKind.i64.wrap ((j:Int)+1))) (.int .i64 ((j+1:Nat):Int)) (by rw [hj2,e2]),.cut]) :=
 piece_ok (Ns:=[]) (m:=800) [] [0,1,2,3] hmA (by kernel_rfl) (fun β=>ok_of_maps (by kernel_rfl)) kk
theorem rp_bad (hj:j<k) (hF:¬ FitM (mpw X (j+1))) :
  rpH q n (mpRN 4) w (rpC q n X N j [.eqv 17 (.bool (decide ((j:Int)<N))) (.bool true) (by rw [decide_eq_true (by omega)]),(rpCm hX hr hf).e,(sR8Fits (mpw X (j+1)) (b:=false) (iff_false_of hF)).e]) :=
 last_ok (Ns:=[]) (m:=800) hmA (fun β=>ok_of_maps (by kernel_rfl))
include hNk in
theorem rp_end:rpH q n (rpRY (mpw X k)) w (rpC q n X N k [.eqv 17 (.bool (decide ((k:Int)<N))) (.bool false) (by rw [decide_eq_false (by omega)])]) :=
 last_ok (Ns:=[]) (m:=800) hmA (fun β=>ok_of_maps (by kernel_rfl))
include hX hr hNk in
theorem rp_runY (hk:k≤256) (hf:PwFit X k):∀ d j,j+d=k→rpH q n (rpRY (mpw X k)) w (rpC q n X N j [])
 | 0,j,e=>by
  obtain rfl:j=k:=by omega
  exact hd_ev' (rp_end q n X N hNk w)
 | d+1,j,e=>hd_ev' (rp_step q n X N hNk hX hr _ w (fun i h1 h2=>hf i h1 (by omega)) (by omega) (hf (j+1) (by omega) (by omega)) (by rw [IntKind.wrap_i64]; omega) rfl (rp_runY hk hf d (j+1) (by omega)))
include hX hr hNk in
theorem rp_runN (hk:k≤256) {i:Nat} (hi:i<k) (hf:PwFit X i) (hF:¬ FitM (mpw X (i+1))):∀ d j,j+d=i→rpH q n (mpRN 4) w (rpC q n X N j [])
 | 0,j,e=>by
  obtain rfl:j=i:=by omega
  exact hd_ev' (rp_bad q n X N hNk hX hr w hf hi hF)
 | d+1,j,e=>hd_ev' (rp_step q n X N hNk hX hr _ w (fun i h1 h2=>hf i h1 (by omega)) (by omega) (hf (j+1) (by omega) (by omega)) (by rw [IntKind.wrap_i64]; omega) rfl (rp_runN hk hi hf hF d (j+1) (by omega)))
end
section
variable {q:MQ} (h:MayQ q) (n:Int) (r:SV) (w:World)
theorem rp_stP (h0:0≤n) (kk:rpH q n r w (rpC q n q n 0 [])):Calls Tryz.prog 32 ((rpAr q n).map (SV.den idE)).toArray w (Said Tryz.prog rpF 0 r [] idE w) :=
 sx_cut (P:=Tryz.prog) (rpAr q n) [] [.eqv 9 (.bool (decide (n<0))) (.bool false) (by rw [decide_eq_false (by omega)]),sR8One.e,.cut] [] [] 800 r [] Tryz.func32 hmA (u:=0) (sl:=rpSl n 0) (ob:=[.dead,.box mob0L MOB,.box (mC q) MOB,.box (mC (mpw q 0)) MOB]) (σ:=[0,1,0,2]) (p':=lpAt rpF 0) (by kernel_rfl) (fun β=>ok_of_maps (by kernel_rfl)) (by kernel_rfl) (by kernel_rfl) idE w (fun i o ho=>by simp at ho) kk
include h in
theorem rp_stN (h0:n<0) (hn:n.natAbs≤256) (kk:rpH q n r w (rpC q n (minv q) (n.natAbs:Int) 0 [])):Calls Tryz.prog 32 ((rpAr q n).map (SV.den idE)).toArray w (Said Tryz.prog rpF 0 r [] idE w) :=
 sx_cut (P:=Tryz.prog) (rpAr q n) [] [.eqv 9 (.bool (decide (n<0))) (.bool true) (by rw [decide_eq_true h0]),(sR8Inv ((fitM_sz h.1).mono (by decide)) (minv_reg h.reg)).e,.eqv 13 (.int .i64 (IntKind.i64.wrap (0-n))) (.int .i64 (n.natAbs:Int)) (by rw [IntKind.wrap_i64]; congr 1; omega),sR8One.e,.cut] [] [] 800 r [] Tryz.func32 hmA (u:=0) (sl:=rpSl (n.natAbs:Int) 0) (ob:=[.dead,.box mob0L MOB,.box (mC (minv q)) MOB,.box (mC (mpw (minv q) 0)) MOB]) (σ:=[0,1,0,2]) (p':=lpAt rpF 0) (by kernel_rfl) (fun β=>ok_of_maps (by kernel_rfl)) (by kernel_rfl) (by kernel_rfl) idE w (fun i o ho=>by simp at ho) kk
end
theorem rpAr_c (q:MQ) (n:Int) (β:Env):((rpAr q n).map (SV.den β)).toArray=((rpAr q n).map (SV.den idE)).toArray:=rfl
section
variable {q:MQ} (h:MayQ q) {n:Int} (hn:n.natAbs≤256)
include h hn in
theorem rp_start (r:SV) (w:World) (kk:∀ N:Int,N=(n.natAbs:Int)→rpH q n r w (rpC q n (pwB q n) N 0 [])):Calls Tryz.prog 32 ((rpAr q n).map (SV.den idE)).toArray w (Said Tryz.prog rpF 0 r [] idE w):=by
 by_cases h0:0≤n
 · have hB:pwB q n=q:=if_pos h0
   rw [hB] at kk
   exact rp_stP n r w h0 (kk n (by omega))
 · have hB:pwB q n=minv q:=if_neg h0
   rw [hB] at kk
   exact rp_stN h n r w (by omega) hn (kk _ rfl)
noncomputable def sRPwY (hf:PwFit (pwB q n) n.natAbs):Spec Tryz.prog :=
 ⟨32,Tryz.call32,rpAr q n,[],rpRY (mpw (pwB q n) n.natAbs),[],fun β w hh=>by
  rw [rpAr_c q n β]
  refine (rp_start h hn _ w fun N hN=>rp_runY q n (pwB q n) N hN (pwB_ok h).1 (pwB_ok h).2 w hn hf n.natAbs 0 (by omega)).mono fun e w' k=>?_
  obtain ⟨β',q',obj,_,rfl,_,_,_,g⟩:=k
  exact ⟨[],(fun x hx=>by cases hx),rfl,trivial,g.bel⟩,by kernel_rfl⟩
noncomputable def sRPwN {i:Nat} (hi:i<n.natAbs) (hf:PwFit (pwB q n) i) (hF:¬ FitM (mpw (pwB q n) (i+1))):Spec Tryz.prog :=
 ⟨32,Tryz.call32,rpAr q n,[],mpRN 4,[],fun β w hh=>by
  rw [rpAr_c q n β]
  refine (rp_start h hn _ w fun N hN=>rp_runN q n (pwB q n) N hN (pwB_ok h).1 (pwB_ok h).2 w hn hi hf hF i 0 (by omega)).mono fun e w' k=>?_
  obtain ⟨β',q',obj,_,rfl,_,_,_,g⟩:=k
  exact ⟨[],(fun x hx=>by cases hx),rfl,trivial,g.bel⟩,by kernel_rfl⟩
end
def yvT (d1 d2:Nat) (s:ByteArray):(k:T3)→k.at s→List (Ev Tryz.prog)
 | .lo,h=>[.eqv d1 (.bool (decide ((120:Int)<(s.size:Int)))) (.bool false) (bool_lit h)]
 | .mid,h=>[.eqv d1 (.bool (decide ((120:Int)<(s.size:Int)))) (.bool true) (bool_lit h.1),.eqv d2 (.bool (decide ((s.size:Int)≤1024))) (.bool true) (bool_lit h.2)]
 | .hi,h=>[.eqv d1 (.bool (decide ((120:Int)<(s.size:Int)))) (.bool true) (bool_lit h.1),.eqv d2 (.bool (decide ((s.size:Int)≤1024))) (.bool false) (bool_lit h.2)]
def yvT2 (x:R4) (a b:T3) (ha:a.at x.s) (hb:b.at x.t):List (Ev Tryz.prog):=yvT 32 38 x.s a ha++(bif a.yes then [] else yvT 45 51 x.t b hb)
abbrev lgA:List SV:=[.one (.c (.b (.s 0 0 4 4)))]
noncomputable abbrev lgN:Nat:=sizeS Tryz.f139 lgA
abbrev lI (i:Int):SV:=.one (.c (.b (.v (.int .i64 i))))
abbrev lB (b:Bool):SV:=.one (.c (.b (.v (.bool b))))
section
variable (x0 y0 x1 y1 x2 y2 x3 y3:R4) (T:TypeId)
def lgCells:List Lf:=rL x0++rL y0++rL x1++rL y1++rL x2++rL y2++rL x3++rL y3
noncomputable def cOut (i:Int) (ev:List (Ev Tryz.prog)):Cf Tryz.prog:=mkC Tryz.prog lgN 1 [(0,.one (.c (.b (.s 0 0 4 4)))),(3,lI i)] [.box (lgCells x0 y0 x1 y1 x2 y2 x3 y3) T,.dead] ev
noncomputable def cIn (i j:Int) (x y:R4) (ev:List (Ev Tryz.prog)):Cf Tryz.prog:=mkC Tryz.prog lgN 1 [(0,.one (.c (.b (.s 0 0 4 4)))),(3,lI i),(22,.one (.c (.b (.s 2 0 2 2)))),(23,lI 2),(24,lI j)] [.box (lgCells x0 y0 x1 y1 x2 y2 x3 y3) T,.dead,.box (rL x++rL y) 25] ev
variable (β0:Env) (w:World) (r:Bool)
abbrev lgH (C:Cf Tryz.prog) (i:Nat):Prop:=HdOk Tryz.prog 1 lgN w.heap.size w β0 (bodyPost Tryz.prog Tryz.f139 (Said Tryz.prog Tryz.f139 1 (lB r) [] β0 w)) C (lpAt Tryz.f139 i)
theorem lg_end:lgH β0 w false (cOut x0 y0 x1 y1 x2 y2 x3 y3 T 4 []) 0:=last_ok (Ns:=[(4,13)]) (m:=200) hmA (fun β=>ok_of_maps (by kernel_rfl))
theorem lg_out0 (h:lgH β0 w r (cIn x0 y0 x1 y1 x2 y2 x3 y3 T 0 0 x0 y0 []) 1):lgH β0 w r (cOut x0 y0 x1 y1 x2 y2 x3 y3 T 0 [.cut]) 0:=piece_ok (Ns:=[(4,13)]) (m:=200) [] [0,0,2] hmA (by kernel_rfl) (fun β=>ok_of_maps (by kernel_rfl)) h
theorem lg_back0 (h:lgH β0 w r (cOut x0 y0 x1 y1 x2 y2 x3 y3 T 1 []) 0):lgH β0 w r (cIn x0 y0 x1 y1 x2 y2 x3 y3 T 0 2 x0 y0 [.cut]) 1:=piece_ok (Ns:=[(4,13)]) (m:=200) [] [0,0] hmA (by kernel_rfl) (fun β=>ok_of_maps (by kernel_rfl)) h
theorem lg_no00 {a b:T3} (ha:a.at x0.s) (hb:b.at x0.t) (h:(a.yes||b.yes)=false) (k:lgH β0 w r (cIn x0 y0 x1 y1 x2 y2 x3 y3 T 0 1 x0 y0 []) 1):lgH β0 w r (cIn x0 y0 x1 y1 x2 y2 x3 y3 T 0 0 x0 y0 (yvT2 x0 a b ha hb++[.cut])) 1:=by
 cases a
 · cases b
   · exact piece_ok (Ns:=[(4,13)]) (m:=200) [] [0,0,2] hmA (by kernel_rfl) (fun β=>ok_of_maps (by kernel_rfl)) k
   · cases h
   · exact piece_ok (Ns:=[(4,13)]) (m:=200) [] [0,0,2] hmA (by kernel_rfl) (fun β=>ok_of_maps (by kernel_rfl)) k
 · cases h
 · cases b
   · exact piece_ok (Ns:=[(4,13)]) (m:=200) [] [0,0,2] hmA (by kernel_rfl) (fun β=>ok_of_maps (by kernel_rfl)) k
   · cases h
   · exact piece_ok (Ns:=[(4,13)]) (m:=200) [] [0,0,2] hmA (by kernel_rfl) (fun β=>ok_of_maps (by kernel_rfl)) k
theorem lg_yes00 {a b:T3} (ha:a.at x0.s) (hb:b.at x0.t) (h:(a.yes||b.yes)=true):lgH β0 w true (cIn x0 y0 x1 y1 x2 y2 x3 y3 T 0 0 x0 y0 (yvT2 x0 a b ha hb)) 1:=by
 cases a
 · cases b
   · cases h
   · exact last_ok (Ns:=[(4,13)]) (m:=200) hmA (fun β=>ok_of_maps (by kernel_rfl))
   · cases h
 · exact last_ok (Ns:=[(4,13)]) (m:=200) hmA (fun β=>ok_of_maps (by kernel_rfl))
 · cases b
   · cases h
   · exact last_ok (Ns:=[(4,13)]) (m:=200) hmA (fun β=>ok_of_maps (by kernel_rfl))
   · cases h
theorem lg_no01 {a b:T3} (ha:a.at y0.s) (hb:b.at y0.t) (h:(a.yes||b.yes)=false) (k:lgH β0 w r (cIn x0 y0 x1 y1 x2 y2 x3 y3 T 0 2 x0 y0 []) 1):lgH β0 w r (cIn x0 y0 x1 y1 x2 y2 x3 y3 T 0 1 x0 y0 (yvT2 y0 a b ha hb++[.cut])) 1:=by
 cases a
 · cases b
   · exact piece_ok (Ns:=[(4,13)]) (m:=200) [] [0,0,2] hmA (by kernel_rfl) (fun β=>ok_of_maps (by kernel_rfl)) k
   · cases h
   · exact piece_ok (Ns:=[(4,13)]) (m:=200) [] [0,0,2] hmA (by kernel_rfl) (fun β=>ok_of_maps (by kernel_rfl)) k
 · cases h
 · cases b
   · exact piece_ok (Ns:=[(4,13)]) (m:=200) [] [0,0,2] hmA (by kernel_rfl) (fun β=>ok_of_maps (by kernel_rfl)) k
   · cases h
   · exact piece_ok (Ns:=[(4,13)]) (m:=200) [] [0,0,2] hmA (by kernel_rfl) (fun β=>ok_of_maps (by kernel_rfl)) k
theorem lg_yes01 {a b:T3} (ha:a.at y0.s) (hb:b.at y0.t) (h:(a.yes||b.yes)=true):lgH β0 w true (cIn x0 y0 x1 y1 x2 y2 x3 y3 T 0 1 x0 y0 (yvT2 y0 a b ha hb)) 1:=by
 cases a
 · cases b
   · cases h
   · exact last_ok (Ns:=[(4,13)]) (m:=200) hmA (fun β=>ok_of_maps (by kernel_rfl))
   · cases h
 · exact last_ok (Ns:=[(4,13)]) (m:=200) hmA (fun β=>ok_of_maps (by kernel_rfl))
 · cases b
   · cases h
   · exact last_ok (Ns:=[(4,13)]) (m:=200) hmA (fun β=>ok_of_maps (by kernel_rfl))
   · cases h
theorem lg_out1 (h:lgH β0 w r (cIn x0 y0 x1 y1 x2 y2 x3 y3 T 1 0 x1 y1 []) 1):lgH β0 w r (cOut x0 y0 x1 y1 x2 y2 x3 y3 T 1 [.cut]) 0:=piece_ok (Ns:=[(4,13)]) (m:=200) [] [0,0,2] hmA (by kernel_rfl) (fun β=>ok_of_maps (by kernel_rfl)) h
theorem lg_back1 (h:lgH β0 w r (cOut x0 y0 x1 y1 x2 y2 x3 y3 T 2 []) 0):lgH β0 w r (cIn x0 y0 x1 y1 x2 y2 x3 y3 T 1 2 x1 y1 [.cut]) 1:=piece_ok (Ns:=[(4,13)]) (m:=200) [] [0,0] hmA (by kernel_rfl) (fun β=>ok_of_maps (by kernel_rfl)) h
theorem lg_no10 {a b:T3} (ha:a.at x1.s) (hb:b.at x1.t) (h:(a.yes||b.yes)=false) (k:lgH β0 w r (cIn x0 y0 x1 y1 x2 y2 x3 y3 T 1 1 x1 y1 []) 1):lgH β0 w r (cIn x0 y0 x1 y1 x2 y2 x3 y3 T 1 0 x1 y1 (yvT2 x1 a b ha hb++[.cut])) 1:=by
 cases a
 · cases b
   · exact piece_ok (Ns:=[(4,13)]) (m:=200) [] [0,0,2] hmA (by kernel_rfl) (fun β=>ok_of_maps (by kernel_rfl)) k
   · cases h
   · exact piece_ok (Ns:=[(4,13)]) (m:=200) [] [0,0,2] hmA (by kernel_rfl) (fun β=>ok_of_maps (by kernel_rfl)) k
 · cases h
 · cases b
   · exact piece_ok (Ns:=[(4,13)]) (m:=200) [] [0,0,2] hmA (by kernel_rfl) (fun β=>ok_of_maps (by kernel_rfl)) k
   · cases h
   · exact piece_ok (Ns:=[(4,13)]) (m:=200) [] [0,0,2] hmA (by kernel_rfl) (fun β=>ok_of_maps (by kernel_rfl)) k
theorem lg_yes10 {a b:T3} (ha:a.at x1.s) (hb:b.at x1.t) (h:(a.yes||b.yes)=true):lgH β0 w true (cIn x0 y0 x1 y1 x2 y2 x3 y3 T 1 0 x1 y1 (yvT2 x1 a b ha hb)) 1:=by
 cases a
 · cases b
   · cases h
   · exact last_ok (Ns:=[(4,13)]) (m:=200) hmA (fun β=>ok_of_maps (by kernel_rfl))
   · cases h
 · exact last_ok (Ns:=[(4,13)]) (m:=200) hmA (fun β=>ok_of_maps (by kernel_rfl))
 · cases b
   · cases h
   · exact last_ok (Ns:=[(4,13)]) (m:=200) hmA (fun β=>ok_of_maps (by kernel_rfl))
   · cases h
theorem lg_no11 {a b:T3} (ha:a.at y1.s) (hb:b.at y1.t) (h:(a.yes||b.yes)=false) (k:lgH β0 w r (cIn x0 y0 x1 y1 x2 y2 x3 y3 T 1 2 x1 y1 []) 1):lgH β0 w r (cIn x0 y0 x1 y1 x2 y2 x3 y3 T 1 1 x1 y1 (yvT2 y1 a b ha hb++[.cut])) 1:=by
 cases a
 · cases b
   · exact piece_ok (Ns:=[(4,13)]) (m:=200) [] [0,0,2] hmA (by kernel_rfl) (fun β=>ok_of_maps (by kernel_rfl)) k
   · cases h
   · exact piece_ok (Ns:=[(4,13)]) (m:=200) [] [0,0,2] hmA (by kernel_rfl) (fun β=>ok_of_maps (by kernel_rfl)) k
 · cases h
 · cases b
   · exact piece_ok (Ns:=[(4,13)]) (m:=200) [] [0,0,2] hmA (by kernel_rfl) (fun β=>ok_of_maps (by kernel_rfl)) k
   · cases h
   · exact piece_ok (Ns:=[(4,13)]) (m:=200) [] [0,0,2] hmA (by kernel_rfl) (fun β=>ok_of_maps (by kernel_rfl)) k
theorem lg_yes11 {a b:T3} (ha:a.at y1.s) (hb:b.at y1.t) (h:(a.yes||b.yes)=true):lgH β0 w true (cIn x0 y0 x1 y1 x2 y2 x3 y3 T 1 1 x1 y1 (yvT2 y1 a b ha hb)) 1:=by
 cases a
 · cases b
   · cases h
   · exact last_ok (Ns:=[(4,13)]) (m:=200) hmA (fun β=>ok_of_maps (by kernel_rfl))
   · cases h
 · exact last_ok (Ns:=[(4,13)]) (m:=200) hmA (fun β=>ok_of_maps (by kernel_rfl))
 · cases b
   · cases h
   · exact last_ok (Ns:=[(4,13)]) (m:=200) hmA (fun β=>ok_of_maps (by kernel_rfl))
   · cases h
theorem lg_out2 (h:lgH β0 w r (cIn x0 y0 x1 y1 x2 y2 x3 y3 T 2 0 x2 y2 []) 1):lgH β0 w r (cOut x0 y0 x1 y1 x2 y2 x3 y3 T 2 [.cut]) 0:=piece_ok (Ns:=[(4,13)]) (m:=200) [] [0,0,2] hmA (by kernel_rfl) (fun β=>ok_of_maps (by kernel_rfl)) h
theorem lg_back2 (h:lgH β0 w r (cOut x0 y0 x1 y1 x2 y2 x3 y3 T 3 []) 0):lgH β0 w r (cIn x0 y0 x1 y1 x2 y2 x3 y3 T 2 2 x2 y2 [.cut]) 1:=piece_ok (Ns:=[(4,13)]) (m:=200) [] [0,0] hmA (by kernel_rfl) (fun β=>ok_of_maps (by kernel_rfl)) h
theorem lg_no20 {a b:T3} (ha:a.at x2.s) (hb:b.at x2.t) (h:(a.yes||b.yes)=false) (k:lgH β0 w r (cIn x0 y0 x1 y1 x2 y2 x3 y3 T 2 1 x2 y2 []) 1):lgH β0 w r (cIn x0 y0 x1 y1 x2 y2 x3 y3 T 2 0 x2 y2 (yvT2 x2 a b ha hb++[.cut])) 1:=by
 cases a
 · cases b
   · exact piece_ok (Ns:=[(4,13)]) (m:=200) [] [0,0,2] hmA (by kernel_rfl) (fun β=>ok_of_maps (by kernel_rfl)) k
   · cases h
   · exact piece_ok (Ns:=[(4,13)]) (m:=200) [] [0,0,2] hmA (by kernel_rfl) (fun β=>ok_of_maps (by kernel_rfl)) k
 · cases h
 · cases b
   · exact piece_ok (Ns:=[(4,13)]) (m:=200) [] [0,0,2] hmA (by kernel_rfl) (fun β=>ok_of_maps (by kernel_rfl)) k
   · cases h
   · exact piece_ok (Ns:=[(4,13)]) (m:=200) [] [0,0,2] hmA (by kernel_rfl) (fun β=>ok_of_maps (by kernel_rfl)) k
theorem lg_yes20 {a b:T3} (ha:a.at x2.s) (hb:b.at x2.t) (h:(a.yes||b.yes)=true):lgH β0 w true (cIn x0 y0 x1 y1 x2 y2 x3 y3 T 2 0 x2 y2 (yvT2 x2 a b ha hb)) 1:=by
 cases a
 · cases b
   · cases h
   · exact last_ok (Ns:=[(4,13)]) (m:=200) hmA (fun β=>ok_of_maps (by kernel_rfl))
   · cases h
 · exact last_ok (Ns:=[(4,13)]) (m:=200) hmA (fun β=>ok_of_maps (by kernel_rfl))
 · cases b
   · cases h
   · exact last_ok (Ns:=[(4,13)]) (m:=200) hmA (fun β=>ok_of_maps (by kernel_rfl))
   · cases h
theorem lg_no21 {a b:T3} (ha:a.at y2.s) (hb:b.at y2.t) (h:(a.yes||b.yes)=false) (k:lgH β0 w r (cIn x0 y0 x1 y1 x2 y2 x3 y3 T 2 2 x2 y2 []) 1):lgH β0 w r (cIn x0 y0 x1 y1 x2 y2 x3 y3 T 2 1 x2 y2 (yvT2 y2 a b ha hb++[.cut])) 1:=by
 cases a
 · cases b
   · exact piece_ok (Ns:=[(4,13)]) (m:=200) [] [0,0,2] hmA (by kernel_rfl) (fun β=>ok_of_maps (by kernel_rfl)) k
   · cases h
   · exact piece_ok (Ns:=[(4,13)]) (m:=200) [] [0,0,2] hmA (by kernel_rfl) (fun β=>ok_of_maps (by kernel_rfl)) k
 · cases h
 · cases b
   · exact piece_ok (Ns:=[(4,13)]) (m:=200) [] [0,0,2] hmA (by kernel_rfl) (fun β=>ok_of_maps (by kernel_rfl)) k
   · cases h
   · exact piece_ok (Ns:=[(4,13)]) (m:=200) [] [0,0,2] hmA (by kernel_rfl) (fun β=>ok_of_maps (by kernel_rfl)) k
theorem lg_yes21 {a b:T3} (ha:a.at y2.s) (hb:b.at y2.t) (h:(a.yes||b.yes)=true):lgH β0 w true (cIn x0 y0 x1 y1 x2 y2 x3 y3 T 2 1 x2 y2 (yvT2 y2 a b ha hb)) 1:=by
 cases a
 · cases b
   · cases h
   · exact last_ok (Ns:=[(4,13)]) (m:=200) hmA (fun β=>ok_of_maps (by kernel_rfl))
   · cases h
 · exact last_ok (Ns:=[(4,13)]) (m:=200) hmA (fun β=>ok_of_maps (by kernel_rfl))
 · cases b
   · cases h
   · exact last_ok (Ns:=[(4,13)]) (m:=200) hmA (fun β=>ok_of_maps (by kernel_rfl))
   · cases h
theorem lg_out3 (h:lgH β0 w r (cIn x0 y0 x1 y1 x2 y2 x3 y3 T 3 0 x3 y3 []) 1):lgH β0 w r (cOut x0 y0 x1 y1 x2 y2 x3 y3 T 3 [.cut]) 0:=piece_ok (Ns:=[(4,13)]) (m:=200) [] [0,0,2] hmA (by kernel_rfl) (fun β=>ok_of_maps (by kernel_rfl)) h
theorem lg_back3 (h:lgH β0 w r (cOut x0 y0 x1 y1 x2 y2 x3 y3 T 4 []) 0):lgH β0 w r (cIn x0 y0 x1 y1 x2 y2 x3 y3 T 3 2 x3 y3 [.cut]) 1:=piece_ok (Ns:=[(4,13)]) (m:=200) [] [0,0] hmA (by kernel_rfl) (fun β=>ok_of_maps (by kernel_rfl)) h
theorem lg_no30 {a b:T3} (ha:a.at x3.s) (hb:b.at x3.t) (h:(a.yes||b.yes)=false) (k:lgH β0 w r (cIn x0 y0 x1 y1 x2 y2 x3 y3 T 3 1 x3 y3 []) 1):lgH β0 w r (cIn x0 y0 x1 y1 x2 y2 x3 y3 T 3 0 x3 y3 (yvT2 x3 a b ha hb++[.cut])) 1:=by
 cases a
 · cases b
   · exact piece_ok (Ns:=[(4,13)]) (m:=200) [] [0,0,2] hmA (by kernel_rfl) (fun β=>ok_of_maps (by kernel_rfl)) k
   · cases h
   · exact piece_ok (Ns:=[(4,13)]) (m:=200) [] [0,0,2] hmA (by kernel_rfl) (fun β=>ok_of_maps (by kernel_rfl)) k
 · cases h
 · cases b
   · exact piece_ok (Ns:=[(4,13)]) (m:=200) [] [0,0,2] hmA (by kernel_rfl) (fun β=>ok_of_maps (by kernel_rfl)) k
   · cases h
   · exact piece_ok (Ns:=[(4,13)]) (m:=200) [] [0,0,2] hmA (by kernel_rfl) (fun β=>ok_of_maps (by kernel_rfl)) k
theorem lg_yes30 {a b:T3} (ha:a.at x3.s) (hb:b.at x3.t) (h:(a.yes||b.yes)=true):lgH β0 w true (cIn x0 y0 x1 y1 x2 y2 x3 y3 T 3 0 x3 y3 (yvT2 x3 a b ha hb)) 1:=by
 cases a
 · cases b
   · cases h
   · exact last_ok (Ns:=[(4,13)]) (m:=200) hmA (fun β=>ok_of_maps (by kernel_rfl))
   · cases h
 · exact last_ok (Ns:=[(4,13)]) (m:=200) hmA (fun β=>ok_of_maps (by kernel_rfl))
 · cases b
   · cases h
   · exact last_ok (Ns:=[(4,13)]) (m:=200) hmA (fun β=>ok_of_maps (by kernel_rfl))
   · cases h
theorem lg_no31 {a b:T3} (ha:a.at y3.s) (hb:b.at y3.t) (h:(a.yes||b.yes)=false) (k:lgH β0 w r (cIn x0 y0 x1 y1 x2 y2 x3 y3 T 3 2 x3 y3 []) 1):lgH β0 w r (cIn x0 y0 x1 y1 x2 y2 x3 y3 T 3 1 x3 y3 (yvT2 y3 a b ha hb++[.cut])) 1:=by
 cases a
 · cases b
   · exact piece_ok (Ns:=[(4,13)]) (m:=200) [] [0,0,2] hmA (by kernel_rfl) (fun β=>ok_of_maps (by kernel_rfl)) k
   · cases h
   · exact piece_ok (Ns:=[(4,13)]) (m:=200) [] [0,0,2] hmA (by kernel_rfl) (fun β=>ok_of_maps (by kernel_rfl)) k
 · cases h
 · cases b
   · exact piece_ok (Ns:=[(4,13)]) (m:=200) [] [0,0,2] hmA (by kernel_rfl) (fun β=>ok_of_maps (by kernel_rfl)) k
   · cases h
   · exact piece_ok (Ns:=[(4,13)]) (m:=200) [] [0,0,2] hmA (by kernel_rfl) (fun β=>ok_of_maps (by kernel_rfl)) k
theorem lg_yes31 {a b:T3} (ha:a.at y3.s) (hb:b.at y3.t) (h:(a.yes||b.yes)=true):lgH β0 w true (cIn x0 y0 x1 y1 x2 y2 x3 y3 T 3 1 x3 y3 (yvT2 y3 a b ha hb)) 1:=by
 cases a
 · cases b
   · cases h
   · exact last_ok (Ns:=[(4,13)]) (m:=200) hmA (fun β=>ok_of_maps (by kernel_rfl))
   · cases h
 · exact last_ok (Ns:=[(4,13)]) (m:=200) hmA (fun β=>ok_of_maps (by kernel_rfl))
 · cases b
   · cases h
   · exact last_ok (Ns:=[(4,13)]) (m:=200) hmA (fun β=>ok_of_maps (by kernel_rfl))
   · cases h
theorem HdOk.ev {P:Program} {m0 n B0:Nat} {w0:World} {β0:Env} {Q:Exit→Act→World→Prop} {u:Nat} {sl:List (Nat × SV)} {ob:List Ob} {ev ev':List (Ev P)} {p:Code × List Kf} (h:HdOk P m0 n B0 w0 β0 Q (mkC P n u sl ob ev) p):HdOk P m0 n B0 w0 β0 Q (mkC P n u sl ob ev') p :=
 fun β a w hβ hs=>h β a w hβ (hs.ev ev)
end
section
variable {x0 y0 x1 y1 x2 y2 x3 y3:R4} {T:TypeId}
structure LgF (x:R4) (r:Bool):Prop where
 is:∃ a b:T3,a.at x.s∧b.at x.t∧(a.yes||b.yes)=r
theorem LgF.all (x:R4):∃ r,LgF x r:=by
 obtain ⟨a,ha⟩:=T3.all x.s
 obtain ⟨b,hb⟩:=T3.all x.t
 exact ⟨_,⟨a,b,ha,hb,rfl⟩⟩
theorem long4_hd {rx0 ry0 rx1 ry1 rx2 ry2 rx3 ry3:Bool} (hx0:LgF x0 rx0) (hy0:LgF y0 ry0) (hx1:LgF x1 rx1) (hy1:LgF y1 ry1) (hx2:LgF x2 rx2) (hy2:LgF y2 ry2) (hx3:LgF x3 rx3) (hy3:LgF y3 ry3) (β0:Env) (w:World):lgH β0 w (rx0||(ry0||(rx1||(ry1||(rx2||(ry2||(rx3||ry3))))))) (cOut x0 y0 x1 y1 x2 y2 x3 y3 T 0 []) 0:=by
 refine HdOk.ev (lg_out0 x0 y0 x1 y1 x2 y2 x3 y3 T β0 w _ ?_)
 obtain ⟨ax0,bx0,hax0,hbx0,ex0⟩:=hx0.is
 cases rx0 with
 | true=>exact HdOk.ev (lg_yes00 x0 y0 x1 y1 x2 y2 x3 y3 T β0 w hax0 hbx0 ex0)
 | false =>
 refine HdOk.ev (lg_no00 x0 y0 x1 y1 x2 y2 x3 y3 T β0 w _ hax0 hbx0 ex0 ?_)
 obtain ⟨ay0,by0,hay0,hby0,ey0⟩:=hy0.is
 cases ry0 with
 | true=>exact HdOk.ev (lg_yes01 x0 y0 x1 y1 x2 y2 x3 y3 T β0 w hay0 hby0 ey0)
 | false =>
 refine HdOk.ev (lg_no01 x0 y0 x1 y1 x2 y2 x3 y3 T β0 w _ hay0 hby0 ey0 ?_)
 refine HdOk.ev (lg_back0 x0 y0 x1 y1 x2 y2 x3 y3 T β0 w _ ?_)
 refine HdOk.ev (lg_out1 x0 y0 x1 y1 x2 y2 x3 y3 T β0 w _ ?_)
 obtain ⟨ax1,bx1,hax1,hbx1,ex1⟩:=hx1.is
 cases rx1 with
 | true=>exact HdOk.ev (lg_yes10 x0 y0 x1 y1 x2 y2 x3 y3 T β0 w hax1 hbx1 ex1)
 | false =>
 refine HdOk.ev (lg_no10 x0 y0 x1 y1 x2 y2 x3 y3 T β0 w _ hax1 hbx1 ex1 ?_)
 obtain ⟨ay1,by1,hay1,hby1,ey1⟩:=hy1.is
 cases ry1 with
 | true=>exact HdOk.ev (lg_yes11 x0 y0 x1 y1 x2 y2 x3 y3 T β0 w hay1 hby1 ey1)
 | false =>
 refine HdOk.ev (lg_no11 x0 y0 x1 y1 x2 y2 x3 y3 T β0 w _ hay1 hby1 ey1 ?_)
 refine HdOk.ev (lg_back1 x0 y0 x1 y1 x2 y2 x3 y3 T β0 w _ ?_)
 refine HdOk.ev (lg_out2 x0 y0 x1 y1 x2 y2 x3 y3 T β0 w _ ?_)
 obtain ⟨ax2,bx2,hax2,hbx2,ex2⟩:=hx2.is
 cases rx2 with
 | true=>exact HdOk.ev (lg_yes20 x0 y0 x1 y1 x2 y2 x3 y3 T β0 w hax2 hbx2 ex2)
 | false =>
 refine HdOk.ev (lg_no20 x0 y0 x1 y1 x2 y2 x3 y3 T β0 w _ hax2 hbx2 ex2 ?_)
 obtain ⟨ay2,by2,hay2,hby2,ey2⟩:=hy2.is
 cases ry2 with
 | true=>exact HdOk.ev (lg_yes21 x0 y0 x1 y1 x2 y2 x3 y3 T β0 w hay2 hby2 ey2)
 | false =>
 refine HdOk.ev (lg_no21 x0 y0 x1 y1 x2 y2 x3 y3 T β0 w _ hay2 hby2 ey2 ?_)
 refine HdOk.ev (lg_back2 x0 y0 x1 y1 x2 y2 x3 y3 T β0 w _ ?_)
 refine HdOk.ev (lg_out3 x0 y0 x1 y1 x2 y2 x3 y3 T β0 w _ ?_)
 obtain ⟨ax3,bx3,hax3,hbx3,ex3⟩:=hx3.is
 cases rx3 with
 | true=>exact HdOk.ev (lg_yes30 x0 y0 x1 y1 x2 y2 x3 y3 T β0 w hax3 hbx3 ex3)
 | false =>
 refine HdOk.ev (lg_no30 x0 y0 x1 y1 x2 y2 x3 y3 T β0 w _ hax3 hbx3 ex3 ?_)
 obtain ⟨ay3,by3,hay3,hby3,ey3⟩:=hy3.is
 cases ry3 with
 | true=>exact HdOk.ev (lg_yes31 x0 y0 x1 y1 x2 y2 x3 y3 T β0 w hay3 hby3 ey3)
 | false =>
 refine HdOk.ev (lg_no31 x0 y0 x1 y1 x2 y2 x3 y3 T β0 w _ hay3 hby3 ey3 ?_)
 refine HdOk.ev (lg_back3 x0 y0 x1 y1 x2 y2 x3 y3 T β0 w _ ?_)
 exact lg_end x0 y0 x1 y1 x2 y2 x3 y3 T β0 w
theorem long4_ok {rx0 ry0 rx1 ry1 rx2 ry2 rx3 ry3:Bool} (hx0:LgF x0 rx0) (hy0:LgF y0 ry0) (hx1:LgF x1 rx1) (hy1:LgF y1 ry1) (hx2:LgF x2 rx2) (hy2:LgF y2 ry2) (hx3:LgF x3 rx3) (hy3:LgF y3 ry3) (β:Env) (w:World) (hh:(Ob.box (lgCells x0 y0 x1 y1 x2 y2 x3 y3) T).holds β w (β 0)) :
  Calls Tryz.prog 139 #[.slice (some ⟨(β 0).b,0,none⟩) 4 4] w fun e w'=>e=.returned (.bool (rx0||(ry0||(rx1||(ry1||(rx2||(ry2||(rx3||ry3))))))))∧Below w.heap.size w w':=by
 refine (sx_cut (P:=Tryz.prog) lgA [.box (lgCells x0 y0 x1 y1 x2 y2 x3 y3) T] [.cut] [] [(4,13)] 200 (lB (rx0||(ry0||(rx1||(ry1||(rx2||(ry2||(rx3||ry3)))))))) [] Tryz.func139 hmA (u:=1) (sl:=[(0,.one (.c (.b (.s 0 0 4 4)))),(3,lI 0)]) (ob:=[.box (lgCells x0 y0 x1 y1 x2 y2 x3 y3) T,.dead]) (σ:=[0,0]) (p':=lpAt Tryz.f139 0) (by kernel_rfl) (fun β=>ok_of_maps (by kernel_rfl)) (by kernel_rfl) (by kernel_rfl) β w (fun k o ho=>?_) (long4_hd hx0 hy0 hx1 hy1 hx2 hy2 hx3 hy3 β w)).mono ?_
 · cases k with
   | zero=>simp only [List.getElem?_cons_zero] at ho; obtain rfl:=Option.some.inj ho; exact hh
   | succ k=>simp at ho
 · rintro e w' ⟨β',q,obj,e1,rfl,e2,e3,e4,g⟩
   exact ⟨rfl,g.bel⟩
end
abbrev OFN:List (Nat × Nat):=[(9,5007004005008),(15,16),(20,11)]
abbrev a3 (p q r:Rw):SV:=.one (.a (lsX (p.C++q.C++r.C)))
abbrev tB (t:Bool):SV:=.one (.c (.b (.v (.bool t))))
abbrev nI (k:Int):SC:=.c (.b (.v (.int .i64 k)))
section
variable {p q r s u v:Pt}
def of6E (z:P6 p q r s u v FitP):List (Ev Tryz.prog):=[(sSpotP p z.1).e,(sSpotP s z.2.2.2.1).e,(sSpotP q z.2.1).e,(sSpotP u z.2.2.2.2.1).e,(sSpotP r z.2.2.1).e,(sSpotP v z.2.2.2.2.2).e]
def twE {t1 t2 t3 t4 t5 t6:Bool} (h1:ptB p q=t1) (h2:ptB s u=t2) (h3:ptB q r=t3) (h4:ptB u v=t4) (h5:ptB r p=t5) (h6:ptB v s=t6):List (Ev Tryz.prog) :=
 eqEvPt h1::(bif t1 then [] else eqEvPt h2::(bif t2 then [] else eqEvPt h3::(bif t3 then [] else eqEvPt h4::(bif t4 then [] else eqEvPt h5::(bif t5 then [] else [eqEvPt h6])))))
abbrev KFb:Nat:=1024
theorem of1z (z:P6 p q r s u v FitP) (h:Six p q r s u v):MSz (dsz (csz KFb)) (mcha p q r):=mcha_sz z.1.sz z.2.1.sz z.2.2.1.sz (by decide) h.r1
theorem of2z (z:P6 p q r s u v FitP) (h:Six p q r s u v):MSz (dsz (csz KFb)) (mcha s u v):=mcha_sz z.2.2.2.1.sz z.2.2.2.2.1.sz z.2.2.2.2.2.sz (by decide) h.r2
theorem of3z (z:P6 p q r s u v FitP) (t:Bool) (h:Six p q r s u v):MSz (dsz (bsz 1 (dsz (csz KFb)))) (mcmp (mid t) (mcha p q r)):=mcmp_sz (mid_sz t (k:=1)) (of1z z h) (h.r3 t)
theorem of4z (z:P6 p q r s u v FitP) (h:Six p q r s u v):MSz (dsz (dsz (csz KFb))) (minv (mcha s u v)):=minv_sz (of2z z h) h.r4
theorem of5z (z:P6 p q r s u v FitP) (t:Bool) (h:Six p q r s u v):MSz KM (mof p q r s u v t):=(mcmp_sz (of4z z h) (of3z z t h) (h.r5 t)).mono (by decide)
theorem mof_nrm (t:Bool) (h:Six p q r s u v):Nrm (mof p q r s u v t):=Nrm.cmp (h.r4.mnorm) (h.r3 t).mnorm
set_option maxHeartbeats 4000000 in
noncomputable def sOf3 (z:P6 p q r s u v FitP) (t:Bool) (h:Six p q r s u v):Spec Tryz.prog :=
 Spec.auto Tryz.call47 [a3 p.w q.w r.w,a3 s.w u.w v.w,tB t] [] (.tup [.a (lsX (maC (mof p q r s u v t))),nI (maK (mof p q r s u v t))]) []
  (of6E z++twE (ptB_ne' h.a) (ptB_ne' h.d) (ptB_ne' h.b) (ptB_ne' h.e) (ptB_ne' h.c) (ptB_ne' h.f) ++
   [sStill.e,(sChaR (z.2.2.2.1.sz.mono (by decide)) (z.2.2.2.2.1.sz.mono (by decide)) (z.2.2.2.2.2.sz.mono (by decide)) h.r2).e,(sUndoR ((of2z z h).mono (by decide)) h.r2.mnorm).e,
    (sChaR (z.1.sz.mono (by decide)) (z.2.1.sz.mono (by decide)) (z.2.2.1.sz.mono (by decide)) h.r1).e,(sBehR ((mid_sz t (k:=1)).mono (by decide)) ((of1z z h).mono (by decide)) (h.r3 t)).e,
    (sBehR ((of4z z h).mono (by decide)) ((of3z z t h).mono (by decide)) (h.r5 t)).e,(sToldN (of5z z t h) (mof_nrm t h)).e]) OFN 1200 Tryz.func47 hmA (by kernel_rfl) (fun β=>by kernel_rfl)
end
end Go.Proofs.YtbepimnlleilfaaGreat.Y
end
