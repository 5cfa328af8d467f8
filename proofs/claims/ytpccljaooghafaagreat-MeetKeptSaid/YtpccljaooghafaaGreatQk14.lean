/- SyC, MtM, MtN, MtO, MtQ, MpM, MtF, MtG, MvM, MvN, MtK, MtL. -/
import Derived.Test.YtpccljaooghafaaGreatQk13
set_option linter.unnecessarySimpa false
set_option linter.unusedVariables false
set_option linter.unusedSimpArgs false
section
namespace Go.Proofs.YtpccljaooghafaaGreat.Y
open Go Go.RowKit
inductive Stop (P:Program) where
 | ended (f:Cf P)
 | head (c:Code) (ks:List Kf) (f:Cf P)
def Stop.cf {P:Program}:Stop P→Cf P
 | .ended f=>f
 | .head _ _ f=>f
def runP (P:Program) (m0 n:Nat) (Ns:List (Nat × Nat)):Nat→Option Code→List Kf→Cf P→Option (Stop P)
 | 0,_,_,_=>none
 | m+1,oc,ks,f=>match oc with
  | none=>match ks with
   | []=>some (.ended f)
   | .sq c::r=>runP P m0 n Ns m (some c) r f
   | .bl _::r=>runP P m0 n Ns m none r f
   | .lp c::r=>match f.ev with
    | .cut::ev'=>some (.head c r { f with ev:=ev' })
    | _=>runP P m0 n Ns m (some c) (.lp c::r) f
   | .sc::r=>runP P m0 n Ns m none r f
  | some c=>match c with
   | .skip=>runP P m0 n Ns m none ks f
   | .label _=>runP P m0 n Ns m none ks f
   | .region id ops d=>match (bif d then drawS1 P m0 n Ns id ops.toList f else seqS P m0 n ops ops.toList f) with
    | some f'=>runP P m0 n Ns m none ks f'
    | none=>none
   | .seq a b=>runP P m0 n Ns m (some a) (.sq b::ks) f
   | .cond x a b=>match evS idE f.sl x with
    | .bool true=>runP P m0 n Ns m (some a) ks { f with cs:=(fun β=>[(.v (evS β f.sl x),.v (.bool true))])::f.cs }
    | .bool false=>runP P m0 n Ns m (some b) ks { f with cs:=(fun β=>[(.v (evS β f.sl x),.v (.bool false))])::f.cs }
    | _=>none
   | .block id c=>runP P m0 n Ns m (some c) (.bl id::ks) f
   | .loop c=>match f.ev with
    | .cut::ev'=>some (.head c ks { f with ev:=ev' })
    | _=>runP P m0 n Ns m (some c) (.lp c::ks) f
   | .scope c=>runP P m0 n Ns m (some c) (.sc::ks) f
   | .exit id=>match popTo id ks with
    | some r=>runP P m0 n Ns m none r f
    | none=>none
   | .ret=>some (.ended f)
   | _=>none
def Stop.after {P:Program} (Q:Exit→Act→World→Prop) (a:Act) (w:World):Stop P→Prop
 | .ended _=>Q .normal a w∧Q .ret a w
 | .head c ks _=>Rounds P c (post P Q ks) a w
theorem Sync.ev {P:Program} {m0 n:Nat} {B0:Bd} {w0:World} {c:Cf P} {β:Env} {a:Act} {w:World} (h:Sync P m0 n B0 w0 c β a w) (x:List (Ev P)):Sync P m0 n B0 w0 { c with ev:=x } β a w:=⟨h.good,h.q,h.sl,h.of,h.m0,h.defers,h.uq⟩
theorem runP_ok {P:Program} {m0 n:Nat} {Ns:List (Nat × Nat)} (hm:P.follows .mixedOrders=true):∀ (m:Nat) (oc:Option Code) (ks:List Kf) (f:Cf P) (s:Stop P),runP P m0 n Ns m oc ks f=some s→f.full→(∀ x∈f.cs,x∈s.cf.cs)∧s.cf.full ∧
  (s.cf.good→∀ {B0:Bd} {w0:World} {β:Env} {a:Act} {w:World},Sync P m0 n B0 w0 f β a w→∀ (Q:Exit→Act→World→Prop),(∀ β' a' w',(∀ k,k<B0.k→β' k=β k)→Sync P m0 n B0 w0 s.cf β' a' w'→s.after Q a' w')→toShow P Q oc ks a w):=by
 intro m
 induction m with
 | zero=>intro oc ks f f' h; simp only [runP] at h; cases h
 | succ m ih =>
  intro oc ks f f' h hf
  simp only [runP] at h
  cases oc with
  | none =>
   dsimp only at h
   cases ks with
   | nil =>
    obtain rfl:=Option.some.inj h
    exact ⟨fun _ hx=>hx,hf,fun _ B0 w0 β a w s Q hQ=>(hQ β a w (fun _ _=>rfl) s).1⟩
   | cons x r =>
    cases x with
    | sq c=>obtain ⟨i1,i2,i3⟩:=ih _ _ _ _ h hf; exact ⟨i1,i2,fun hg B0 w0 β a w s Q hQ=>i3 hg s Q hQ⟩
    | bl j =>
     obtain ⟨i1,i2,i3⟩:=ih _ _ _ _ h hf
     exact ⟨i1,i2,fun hg B0 w0 β a w s Q hQ=>i3 hg s Q hQ⟩
    | lp c =>
     dsimp only at h
     split at h
     · obtain rfl:=Option.some.inj h
       exact ⟨fun _ hx=>hx,hf,fun _ B0 w0 β a w s Q hQ=>hQ β a w (fun _ _=>rfl) (s.ev _)⟩
     · obtain ⟨i1,i2,i3⟩:=ih _ _ _ _ h hf
       exact ⟨i1,i2,fun hg B0 w0 β a w s Q hQ=>rounds_one (i3 hg s Q hQ)⟩
    | sc=>obtain ⟨i1,i2,i3⟩:=ih _ _ _ _ h hf; exact ⟨i1,i2,fun hg B0 w0 β a w s Q hQ=>i3 hg s Q hQ⟩
  | some c =>
   cases c with
   | skip=>obtain ⟨i1,i2,i3⟩:=ih _ _ _ _ h hf; exact ⟨i1,i2,fun hg B0 w0 β a w s Q hQ=>wp_skip (i3 hg s Q hQ)⟩
   | label l=>obtain ⟨i1,i2,i3⟩:=ih _ _ _ _ h hf; exact ⟨i1,i2,fun hg B0 w0 β a w s Q hQ=>wp_label (i3 hg s Q hQ)⟩
   | region rid ops d =>
    dsimp only at h
    split at h
    · rename_i f1 h1
      cases d with
      | true =>
       simp only [cond_true] at h1
       have hf1:=drawS1_full h1 hf
       obtain ⟨i1,i2,i3⟩:=ih _ _ _ _ h hf1
       obtain ⟨j1,j2⟩:=drawS1_ok hm h1 (fun k hk=>(hf.1 k).1 hk) hf.2
       refine ⟨fun x hx=>i1 x (j1 x hx),i2,fun hg B0 w0 β a w s Q hQ=>?_⟩
       have:=j2 (fun β x hx=>hg β x (i1 x hx)) s (post P Q ks) fun β' a' w' e s'=>i3 hg s' Q fun β2 a2 w2 e2 s2=>hQ β2 a2 w2 (fun k hk=>(e2 k hk).trans (e k hk)) s2
       simp only [Array.toArray_toList] at this
       exact this
      | false =>
       simp only [cond_false] at h1
       have hf1:=seqS_full h1 hf
       obtain ⟨i1,i2,i3⟩:=ih _ _ _ _ h hf1
       obtain ⟨j1,j2⟩:=seqS_ok h1
       exact ⟨fun x hx=>i1 x (j1 x hx),i2,fun hg B0 w0 β a w s Q hQ=>wp_region_list (j2 (fun β x hx=>hg β x (i1 x hx)) s (post P Q ks) fun β' a' w' e s'=>i3 hg s' Q fun β2 a2 w2 e2 s2=>hQ β2 a2 w2 (fun k hk=>(e2 k hk).trans (e k hk)) s2)⟩
    · cases h
   | seq c d=>obtain ⟨i1,i2,i3⟩:=ih _ _ _ _ h hf; exact ⟨i1,i2,fun hg B0 w0 β a w s Q hQ=>wp_seq (i3 hg s Q hQ)⟩
   | cond x c d =>
    dsimp only at h
    split at h
    · obtain ⟨i1,i2,i3⟩:=ih _ _ _ _ h hf
      refine ⟨fun y hy=>i1 y (List.mem_cons_of_mem _ hy),i2,fun hg B0 w0 β a w s Q hQ=>?_⟩
      obtain ⟨e,_⟩:=Eqs.cons_ok (hg β _ (i1 _ (List.mem_cons_self ..)))
      injection e with e
      exact wp_cond_true (by rw [s.sl.eval]; exact e) (i3 hg (s.cs _) Q hQ)
    · obtain ⟨i1,i2,i3⟩:=ih _ _ _ _ h hf
      refine ⟨fun y hy=>i1 y (List.mem_cons_of_mem _ hy),i2,fun hg B0 w0 β a w s Q hQ=>?_⟩
      obtain ⟨e,_⟩:=Eqs.cons_ok (hg β _ (i1 _ (List.mem_cons_self ..)))
      injection e with e
      exact wp_cond_false (by rw [s.sl.eval]; exact e) (i3 hg (s.cs _) Q hQ)
    · cases h
   | block j c=>obtain ⟨i1,i2,i3⟩:=ih _ _ _ _ h hf; exact ⟨i1,i2,fun hg B0 w0 β a w s Q hQ=>wp_block (i3 hg s Q hQ)⟩
   | loop c =>
    dsimp only at h
    split at h
    · obtain rfl:=Option.some.inj h
      exact ⟨fun _ hx=>hx,hf,fun _ B0 w0 β a w s Q hQ=>rounds_loop (hQ β a w (fun _ _=>rfl) (s.ev _))⟩
    · obtain ⟨i1,i2,i3⟩:=ih _ _ _ _ h hf
      exact ⟨i1,i2,fun hg B0 w0 β a w s Q hQ=>rounds_loop (rounds_one (i3 hg s Q hQ))⟩
   | rangeFunc _ _ _ _=>cases h
   | exit j =>
    dsimp only at h
    split at h
    · rename_i r hr
      obtain ⟨i1,i2,i3⟩:=ih _ _ _ _ h hf
      exact ⟨i1,i2,fun hg B0 w0 β a w s Q hQ=>wp_exit (post_exit hr (i3 hg s Q hQ))⟩
    · cases h
   | scope c=>obtain ⟨i1,i2,i3⟩:=ih _ _ _ _ h hf; exact ⟨i1,i2,fun hg B0 w0 β a w s Q hQ=>wp_scope_straight (i3 hg s Q hQ)⟩
   | goto _=>cases h
   | ret =>
    obtain rfl:=Option.some.inj h
    exact ⟨fun _ hx=>hx,hf,fun _ B0 w0 β a w s Q hQ=>wp_ret (post_ret (hQ β a w (fun _ _=>rfl) s).2 ks)⟩
   | refuse _=>cases h
def loopsOf:Nat→Code→List Kf→List (Code × List Kf)
 | 0,_,_=>[]
 | m+1,c,ks=>match c with
  | .seq a b=>loopsOf m a (.sq b::ks)++loopsOf m b ks
  | .cond _ a b=>loopsOf m a ks++loopsOf m b ks
  | .block id c=>loopsOf m c (.bl id::ks)
  | .loop c=>(c,ks)::loopsOf m c (.lp c::ks)
  | .scope c=>loopsOf m c (.sc::ks)
  | _=>[]
def lpAt (fn:Func) (i:Nat):Code × List Kf:=match fn.body with
 | some c=>(loopsOf 200 c []).getD i (.skip,[])
 | none=>(.skip,[])
def Stop.pos {P:Program}:Stop P→Option (Code × List Kf)
 | .ended _=>none
 | .head c ks _=>some (c,ks)
def mkC (P:Program) (n u:Nat) (sl:List (Nat × SV)) (ob:List Ob) (ev:List (Ev P)):Cf P :=
 ⟨sl++(List.range n).map fun t=>(t,.one (.c (.b (.gh u t)))),fun k=>Nat.blt k ob.length,ob,ev,[]⟩
def tEq1 (β:Env) (σ:List Nat):Env:=fun j=>β (σ.getD j 0)
def opaqB (u t:Nat):SV→Bool
 | .one (.c (.b (.gh k i)))=>Nat.beq k u&&Nat.beq i t
 | _=>false
def layB:Ob→Bool
 | .box _ _=>true
 | .row _ _ _ _=>true
 | .ow _ _=>true
 | _=>false
def deadB:Ob→Bool
 | .dead=>true
 | _=>false
def kindB:Ob→Ob→Bool
 | .th _,.th _=>true
 | .al _ _,.th _=>true
 | .box _ _,.box _ _=>true
 | .row _ _ _ _,.row _ _ _ _=>true
 | .ow _ _,.ow _ _=>true
 | .ow _ _,.th _=>true
 | _,.dead=>true
 | _,_=>false
def wkB (m0 u:Nat) (obS obT:List Ob) (σ:List Nat):Bool :=
 Nat.beq σ.length obT.length&&Nat.ble m0 u&&Nat.blt u obT.length&&(List.range m0).all (fun i=>Nat.beq (σ.getD i 0) i) &&
 (List.range obT.length).all fun j=>match obT[j]? with
  | none=>false
  | some x=>(bif Nat.beq j u then deadB x else match obS[σ.getD j 0]? with
    | none=>false
    | some y=>kindB y x&&x.of (fun k=>Nat.blt k obT.length&&!Nat.beq k u)) &&
   (bif layB x then (!Nat.ble m0 j||Nat.ble m0 (σ.getD j 0))&&(List.range obT.length).all (fun i=>Nat.beq i j||(Nat.beq i u||((match obT[i]? with | some y=>deadB y | none=>false)||!Nat.beq (σ.getD i 0) (σ.getD j 0)))) else true)
def wkOb (β:Env) (σ:List Nat):Ob→Ob→Eqs
 | .box cs t,.box cs' t'=>[(.n t,.n t'),(.v (.agg (cs.map (Lf.den β)).toArray),.v (.agg (cs'.map (Lf.den (tEq1 β σ))).toArray))]
 | .row cs t n sz,.row cs' t' n' sz'=>[(.n t,.n t'),(.n n,.n n'),(.n sz,.n sz'),(.v (.agg (cs.map (Lf.den β)).toArray),.v (.agg (cs'.map (Lf.den (tEq1 β σ))).toArray))]
 | .ow D t,.ow D' t'=>[(.ob (.ow D t),.ob (.ow D' t'))]
 | .ow D _,.th t'=>[(.ob (.th D),.ob (.th t'))]
 | y,.th t=>[(.ob (y.plain (.th t)),.ob (.th t))]
 | _,_=>[]
def wkObs (β:Env) (obS:List Ob) (σ:List Nat):List Ob→Nat→Eqs
 | [],_=>[]
 | x::r,j=>(match obS[σ.getD j 0]? with | some y=>wkOb β σ y x | none=>(match x with | .dead=>[] | _=>Eqs.no))++wkObs β obS σ r (j+1)
def wkSl (β:Env) (u L:Nat) (σ:List Nat) (slS slT:List (Nat × SV)):Nat→Eqs
 | 0=>[]
 | t+1=>(bif opaqB u t (look slT t) then [] else bif (look slT t).of (fun k=>Nat.blt k L&&!Nat.beq k u) then [(.v ((look slS t).den β),.v ((look slT t).den (tEq1 β σ)))] else Eqs.no)++wkSl β u L σ slS slT t
def pieceE (P:Program) (m0 n:Nat) (s:Option (Stop P)) (u:Nat) (sl:List (Nat × SV)) (ob:List Ob) (σ:List Nat) (β:Env):Eqs :=
 match s with
 | some (.head _ _ f)=>(bif wkB m0 u f.ob ob σ&&Nat.beq f.ev.length 0&&sl.all (fun p=>Nat.blt p.1 n) then [] else Eqs.no)++(wkObs β f.ob σ ob 0++(wkSl β u ob.length σ f.sl (mkC P n u sl ob []).sl n++eqsOf β f.cs))
 | _=>Eqs.no
def lastE (P:Program) (fn:Func) (m0 n:Nat) (res:SV) (outs:List (Nat × Ob)) (s:Option (Stop P)) (β:Env):Eqs :=
 match s with
 | some (.ended f)=>fin1 P fn m0 n res outs f β
 | _=>Eqs.no
theorem Eqs.left {a b:Eqs} (h:Eqs.ok (a++b)):Eqs.ok a:=fun p hp=>h p (List.mem_append.2 (.inl hp))
theorem Eqs.right {a b:Eqs} (h:Eqs.ok (a++b)):Eqs.ok b:=fun p hp=>h p (List.mem_append.2 (.inr hp))
theorem bif_ok {b:Bool} (h:Eqs.ok (bif b then [] else Eqs.no)):b=true:=by
 cases b
 · exact (Eqs.no_ok h).elim
 · rfl
theorem look_none:∀ {l:List (Nat × SV)} {t:Nat},(∀ p∈l,p.1≠t)→look l t=undefS
 | [],_,_=>rfl
 | (k,x)::r,t,h=>by
  unfold look
  rw [show Nat.beq k t=false by rw [Bool.eq_false_iff,ne_eq,Nat.beq_eq]; exact h (k,x) (List.mem_cons_self ..),cond_false]
  exact look_none fun p hp=>h p (List.mem_cons_of_mem _ hp)
theorem wkObs_ok {β:Env} {obS:List Ob} {σ:List Nat}:∀ {obT:List Ob} {i:Nat},Eqs.ok (wkObs β obS σ obT i)→∀ (j:Nat) (x y:Ob),obT[j]?=some x→obS[σ.getD (i+j) 0]?=some y→Eqs.ok (wkOb β σ y x)
 | [],_,_,j,x,y,h,_=>by simp at h
 | z::r,i,h,j,x,y,hx,hy=>by
  unfold wkObs at h
  cases j with
  | zero =>
   simp only [List.getElem?_cons_zero] at hx
   obtain rfl:=Option.some.inj hx
   have:=Eqs.left h
   rw [Nat.add_zero] at hy
   rw [hy] at this
   exact this
  | succ j=>exact wkObs_ok (Eqs.right h) j x y (by simpa using hx) (by rw [show i+1+j=i+(j+1) by omega]; exact hy)
theorem opaqB_eq {u t:Nat} {x:SV} (h:opaqB u t x=true):x=.one (.c (.b (.gh u t))):=by
 unfold opaqB at h
 split at h
 · rw [Bool.and_eq_true,Nat.beq_eq,Nat.beq_eq] at h
   obtain ⟨rfl,rfl⟩:=h
   rfl
 · cases h
theorem wkSl_ok {β:Env} {u L:Nat} {σ:List Nat} {slS slT:List (Nat × SV)}:∀ {n:Nat},Eqs.ok (wkSl β u L σ slS slT n)→∀ t,t<n→look slT t=.one (.c (.b (.gh u t)))∨((look slT t).of (fun k=>Nat.blt k L&&!Nat.beq k u)=true∧(look slS t).den β=(look slT t).den (tEq1 β σ))
 | 0,_,t,h=>by omega
 | n+1,h,t,ht=>by
  unfold wkSl at h
  by_cases e:t=n
  · subst e
    have h:=Eqs.left h
    cases ho:opaqB u t (look slT t) with
    | true=>exact .inl (opaqB_eq ho)
    | false =>
     rw [ho,cond_false] at h
     cases hq:(look slT t).of (fun k=>Nat.blt k L&&!Nat.beq k u) with
     | true =>
      rw [hq,cond_true] at h
      obtain ⟨e,_⟩:=Eqs.cons_ok h
      injection e with e
      exact .inr ⟨rfl,e⟩
     | false=>rw [hq,cond_false] at h; exact (Eqs.no_ok h).elim
  · exact wkSl_ok (Eqs.right h) t (by omega)
theorem layB_iff {x:Ob}:layB x=true↔∃ p,x.layOf=some p:=by
 cases x<;>simp [layB,Ob.layOf]
theorem kind_lay {y x:Ob} (h:kindB y x=true) (hx:layB x=true):layB y=true:=by
 cases y<;>cases x<;>first | rfl | (cases h; done) | (cases hx; done)
theorem kind_dead {y x:Ob} (h:kindB y x=true) (hx:x≠.dead):y≠.dead:=by
 cases y<;>cases x<;>first | (intro e; cases e; done) | (cases h; done) | exact absurd rfl hx
theorem wk_hold {β β':Env} {w:World} {g:Pl} {σ:List Nat} {q:Nat→Bool} {y x:Ob} (hk:kindB y x=true) (he:Eqs.ok (wkOb β σ y x)) (hq:x.of q=true) (hβ:∀ k,q k=true→tEq1 β σ k=β' k) (h:y.holds β w g):x.holds β' w g:=by
 have thc:∀ (y:Ob) (t:Thing),Eqs.ok [(Tm.ob (y.plain (.th t)),Tm.ob (.th t))]→y.holds β w g→(Ob.th t).holds β' w g:=fun y t he h=>by
  obtain ⟨e,_⟩:=Eqs.cons_ok he
  injection e with e
  have:=Ob.plain_holds (x:=.th t) h
  rw [e] at this
  exact this
 cases x with
 | dead=>exact trivial
 | al r D=>cases y<;>(cases hk; done)
 | pl n=>cases y<;>(cases hk; done)
 | th t =>
  cases y<;>first | (cases hk; done) | exact thc _ t he h | skip
  obtain ⟨e,_⟩:=Eqs.cons_ok he
  injection e with e
  injection e with e
  subst e
  exact h.2
 | ow D' t' =>
  cases y<;>first | (cases hk; done) | skip
  obtain ⟨e,_⟩:=Eqs.cons_ok he
  injection e with e
  injection e with e e2
  subst e e2
  exact h
 | box cs' t' =>
  cases y<;>first | (cases hk; done) | skip
  rename_i cs t
  obtain ⟨e1,he⟩:=Eqs.cons_ok he
  obtain ⟨e2,_⟩:=Eqs.cons_ok he
  injection e1 with e1
  injection e2 with e2
  injection e2 with e2
  have e2:=congrArg Array.toList e2
  dsimp only at e2
  subst e1
  have hc:cs'.map (Lf.den (tEq1 β σ))=cs'.map (Lf.den β'):=all_congr hq (Lf.den_congr hβ)
  refine ⟨h.1,?_⟩
  rw [← hc,← e2]
  exact h.2
 | row cs' t' n' sz' =>
  cases y<;>first | (cases hk; done) | skip
  rename_i cs t n sz
  obtain ⟨e1,he⟩:=Eqs.cons_ok he
  obtain ⟨e3,he⟩:=Eqs.cons_ok he
  obtain ⟨e4,he⟩:=Eqs.cons_ok he
  obtain ⟨e2,_⟩:=Eqs.cons_ok he
  injection e1 with e1
  injection e3 with e3
  injection e4 with e4
  injection e2 with e2
  injection e2 with e2
  have e2:=congrArg Array.toList e2
  dsimp only at e2
  subst e1 e3 e4
  have hc:cs'.map (Lf.den (tEq1 β σ))=cs'.map (Lf.den β'):=all_congr hq (Lf.den_congr hβ)
  have hl:cs'.length=cs.length:=by
   have:=congrArg List.length e2
   rw [List.length_map,List.length_map] at this
   exact this.symm
  obtain ⟨h0,cur,h1,h2,h3,h4,h5,h6⟩:=h
  refine ⟨h0,cur,h1,by rw [hl]; exact h2,h3,h4,h5,?_⟩
  rw [← hc,← e2]
  exact h6
theorem wk_sync {P:Program} {m0 n u:Nat} {N:Nat} {w0:World} {f:Cf P} {sl:List (Nat × SV)} {ob:List Ob} {ev:List (Ev P)} {σ:List Nat} {β:Env} {a:Act} {w:World}
  (hB:wkB m0 u f.ob ob σ=true) (hn:sl.all (fun p=>Nat.blt p.1 n)=true) (hO:Eqs.ok (wkObs β f.ob σ ob 0)) (hS:Eqs.ok (wkSl β u ob.length σ f.sl (mkC P n u sl ob ev).sl n)) (h:Sync P m0 n (bd0 N m0) w0 f β a w) :
  ∃ β':Env,(∀ k,k<m0→β' k=β k)∧Sync P m0 n (bd0 N m0) w0 (mkC P n u sl ob ev) β' a w:=by
 unfold wkB at hB
 rw [Bool.and_eq_true,Bool.and_eq_true,Bool.and_eq_true,Bool.and_eq_true,Nat.beq_eq,Nat.ble_eq,Nat.blt_eq] at hB
 obtain ⟨⟨⟨⟨hlen,hmu⟩,hul⟩,hid⟩,hall⟩:=hB
 have hσ:∀ i,i<m0→σ.getD i 0=i:=fun i hi=>Nat.eq_of_beq_eq_true (List.all_eq_true.1 hid i (List.mem_range.2 hi))
 obtain ⟨β',hβ⟩:∃ β':Env,β'=fun j=>if j=u then ⟨0,fun _=>none,fun _=>0,fun _=>False,fun t=>a.tmps.getD t undef⟩ else β (σ.getD j 0):=⟨_,rfl⟩
 have hβu:β' u=⟨0,fun _=>none,fun _=>0,fun _=>False,fun t=>a.tmps.getD t undef⟩:=by rw [hβ]; exact if_pos rfl
 have hβo:∀ j,j≠u→β' j=β (σ.getD j 0):=fun j hj=>by rw [hβ]; exact if_neg hj
 have hβm:∀ k,k<m0→β' k=β k:=fun k hk=>by rw [hβo k (by omega),hσ k hk]
 have hq:∀ k,(Nat.blt k ob.length&&!Nat.beq k u)=true→tEq1 β σ k=β' k:=fun k hk=>by
  rw [Bool.and_eq_true,Bool.not_eq_true',Nat.blt_eq] at hk
  rw [hβo k (fun e=>by rw [e,Nat.beq_refl] at hk; cases hk.2)]
  rfl
 have hmono:∀ k,(Nat.blt k ob.length&&!Nat.beq k u)=true→Nat.blt k ob.length=true:=fun k hk=>by rw [Bool.and_eq_true] at hk; exact hk.1
 have hsrc:∀ (j:Nat) (x:Ob),ob[j]?=some x→(j=u→x=.dead)∧(j≠u→∃ y,f.ob[σ.getD j 0]?=some y∧kindB y x=true∧x.of (fun k=>Nat.blt k ob.length&&!Nat.beq k u)=true)∧(layB x=true→(m0≤j→m0≤σ.getD j 0)∧∀ (i:Nat) (y:Ob),ob[i]?=some y→y≠.dead→i≠j→i≠u→σ.getD i 0≠σ.getD j 0):=by
  intro j x hx
  have hj:j<ob.length:=(List.getElem?_eq_some_iff.1 hx).1
  have hc:=List.all_eq_true.1 hall j (List.mem_range.2 hj)
  rw [hx] at hc
  dsimp only at hc
  rw [Bool.and_eq_true] at hc
  obtain ⟨hc1,hc2⟩:=hc
  refine ⟨fun e=>?_,fun e=>?_,fun hl=>?_⟩
  · rw [e,Nat.beq_refl,cond_true] at hc1
    cases x<;>first | rfl | (cases hc1; done)
  · rw [show Nat.beq j u=false by rw [Bool.eq_false_iff,ne_eq,Nat.beq_eq]; exact e,cond_false] at hc1
    split at hc1
    · cases hc1
    · rename_i y hy
      rw [Bool.and_eq_true] at hc1
      exact ⟨y,hy,hc1.1,hc1.2⟩
  · rw [hl,cond_true,Bool.and_eq_true,Bool.or_eq_true] at hc2
    refine ⟨fun hm=>?_,fun i y hy hd hij hiu e=>?_⟩
    · rcases hc2.1 with h1 | h1
      · rw [Bool.not_eq_true',Bool.eq_false_iff,ne_eq,Nat.ble_eq] at h1
        exact absurd hm h1
      · exact Nat.le_of_ble_eq_true h1
    · have hi:i<ob.length:=(List.getElem?_eq_some_iff.1 hy).1
      have h1:=List.all_eq_true.1 hc2.2 i (List.mem_range.2 hi)
      rw [hy,Bool.or_eq_true,Bool.or_eq_true,Bool.or_eq_true,Nat.beq_eq,Nat.beq_eq,e,Nat.beq_refl] at h1
      rcases h1 with h1 | h1 | h1 | h1
      · exact hij h1
      · exact hiu h1
      · refine hd ?_
        cases y<;>first | rfl | (cases h1; done)
      · cases h1
 have hex:∀ {k:Nat} {y:Ob},f.ob[k]?=some y→f.q k=true:=fun {k y} hy=>(h.q k).2 (List.getElem?_eq_some_iff.1 hy).1
 have hob:∀ {k:Nat},Nat.blt k ob.length=true→∃ x,ob[k]?=some x:=fun {k} hk=>⟨_,List.getElem?_eq_getElem (by rw [Nat.blt_eq] at hk; exact hk)⟩
 have hfree:∀ {k:Nat} {x:Ob},ob[k]?=some x→Free (fun k=>Nat.blt k ob.length) (fun k=>ob[k]?) k→layB x=true∧k≠u:=fun {k x} hx hf=>by
  rcases hf with ⟨x',e,p,hp⟩ | ⟨⟨m,e⟩,_⟩
  · dsimp only at e
    rw [hx] at e
    obtain rfl:=Option.some.inj e
    refine ⟨layB_iff.2 ⟨p,hp⟩,fun e=>?_⟩
    rw [(hsrc k x hx).1 e] at hp
    cases hp
  · dsimp only at e
    rw [hx] at e
    obtain rfl:=Option.some.inj e
    exfalso
    by_cases ek:k=u
    · have:=(hsrc k _ hx).1 ek
      cases this
    · obtain ⟨y,_,hk,_⟩:=(hsrc k _ hx).2.1 ek
      cases y<;>(cases hk; done)
 have hlayS:∀ {k:Nat} {x:Ob},ob[k]?=some x→layB x=true→k≠u→f.q (σ.getD k 0)=true∧Free f.q (fun k=>f.ob[k]?) (σ.getD k 0):=fun {k x} hx hl hku=>by
  obtain ⟨y,hy,hk,_⟩:=(hsrc k x hx).2.1 hku
  obtain ⟨p,hp⟩:=layB_iff.1 (kind_lay hk hl)
  exact ⟨hex hy,Free.lay hy hp⟩
 refine ⟨β',hβm,⟨⟨h.good.bel,h.good.le,?_,?_,?_,?_,?_,?_,?_,?_,?_⟩,fun k=>by dsimp only [mkC]; rw [Nat.blt_eq],⟨h.sl.1,fun t=>?_⟩,fun t=>?_,?_,h.defers,?_⟩⟩
 ·
  intro k o hk hko
  dsimp only [mkC] at hk hko ⊢
  by_cases e:k=u
  · rw [(hsrc k o hko).1 e]
    exact ⟨trivial,rfl⟩
  · obtain ⟨y,hy,hkd,hof⟩:=(hsrc k o hko).2.1 e
    have hh:=(h.good.hold _ y (hex hy) hy).1
    refine ⟨?_,Ob.of_mono hmono _ hof⟩
    rw [hβo k e]
    refine wk_hold hkd (wkObs_ok hO k o y hko ?_) hof hq hh
    rw [Nat.zero_add]
    exact hy
 ·
  intro k hk c hc
  dsimp only [mkC] at hk
  by_cases e:k=u
  · rw [e,hβu] at hc; exact hc.elim
  · rw [hβo k e] at hc
    obtain ⟨x,hx⟩:=hob hk
    obtain ⟨y,hy,_⟩:=(hsrc k x hx).2.1 e
    exact h.good.lt _ (hex hy) c hc
 ·
  intro k j hk hj hne hm hf hd
  dsimp only [mkC] at hk hj hf hd
  obtain ⟨x,hx⟩:=hob hk
  obtain ⟨z,hz⟩:=hob hj
  obtain ⟨hl,hku⟩:=hfree hx hf
  by_cases e:j=u
  · rw [e,hβu]; exact fun hc=>hc.elim
  · obtain ⟨hs1,hs2⟩:=hlayS hx hl hku
    obtain ⟨hm2,hdis⟩:=(hsrc k x hx).2.2 hl
    obtain ⟨y,hy,hkd,_⟩:=(hsrc j z hz).2.1 e
    have hzd:z≠.dead:=fun e=>hd (by rw [hz,e])
    rw [hβo k hku,hβo j e]
    exact h.good.ne _ _ hs1 (hex hy) (hdis j z hz hzd hne e) (hm2 hm) hs2 (fun e=>kind_dead hkd hzd (Option.some.inj (hy.symm.trans e)))
 ·
  intro k x hk hm hx hmi
  dsimp only [mkC] at hk hx
  obtain ⟨hl,hku⟩:layB x=true∧k≠u:=by
   refine ⟨?_,fun e=>by rw [(hsrc k x hx).1 e] at hmi; cases hmi⟩
   cases x<;>first | (cases hmi; done) | exact layB_iff.2 ⟨_,rfl⟩ | skip
   exfalso
   by_cases ek:k=u
   · have:=(hsrc k _ hx).1 ek
     cases this
   · obtain ⟨y,_,hk,_⟩:=(hsrc k _ hx).2.1 ek
     cases y<;>(cases hk; done)
  obtain ⟨hs1,hs2⟩:=hlayS hx hl hku
  rw [hβo k hku]
  exact h.good.low _ hs1 (((hsrc k x hx).2.2 hl).1 hm) hs2
 ·
  intro k hk hm c hc
  dsimp only [mkC] at hk
  by_cases e:k=u
  · rw [e,hβu] at hc; exact hc.elim
  · rw [hβo k e] at hc
    obtain ⟨x,hx⟩:=hob hk
    obtain ⟨y,hy,_⟩:=(hsrc k x hx).2.1 e
    by_cases hs:m0≤σ.getD k 0
    · exact (h.good.fr _ (hex hy) hs c hc).imp id fun ⟨i,i1,i2⟩=>⟨i,i1,by rw [hβm i i1]; exact i2⟩
    · exact .inr ⟨σ.getD k 0,by omega,by rw [hβm _ (by omega)]; exact hc⟩
 · intro i hi
   dsimp only [mkC]
   rw [Nat.blt_eq]
   omega
 · intro k r D hk ho
   dsimp only [mkC] at ho
   exfalso
   by_cases e:k=u
   · have:=(hsrc k _ ho).1 e
     cases this
   · obtain ⟨y,_,hkd,_⟩:=(hsrc k _ ho).2.1 e
     cases y<;>(cases hkd; done)
 · intro k r D hk ho
   dsimp only [mkC] at ho
   exfalso
   by_cases e:k=u
   · have:=(hsrc k _ ho).1 e
     cases this
   · obtain ⟨y,_,hkd,_⟩:=(hsrc k _ ho).2.1 e
     cases y<;>(cases hkd; done)
 · intro k i hk hi hlt hm hd hp
   dsimp only [mkC] at hp
   obtain ⟨M,hp⟩:=hp
   exfalso
   by_cases e:i=u
   · have:=(hsrc i _ hp).1 e
     cases this
   · obtain ⟨y,_,hkd,_⟩:=(hsrc i _ hp).2.1 e
     cases y<;>(cases hkd; done)
 ·
  by_cases ht:t<n
  · rcases wkSl_ok hS t ht with e | ⟨e1,e2⟩
    · rw [e]
      show _=(β' u).u t
      rw [hβu]
    · rw [h.sl.2 t,e2]
      exact SV.den_congr hq _ e1
  · have hl:look (mkC P n u sl ob ev).sl t=undefS:=look_none fun p hp=>by
     rcases List.mem_append.1 hp with hp | hp
     · have:=List.all_eq_true.1 hn p hp
       rw [Nat.blt_eq] at this
       omega
     · obtain ⟨t',ht',rfl⟩:=List.mem_map.1 hp
       have:=List.mem_range.1 ht'
       dsimp only
       omega
    rw [hl]
    show a.tmps.getD t undef=undef
    rw [Array.getD_eq_getD_getElem?,Array.getElem?_eq_none (by rw [h.sl.1]; omega)]
    rfl
 · by_cases ht:t<n
   · rcases wkSl_ok hS t ht with e | ⟨e1,e2⟩
     · rw [e]
       show Nat.blt u ob.length=true
       rw [Nat.blt_eq]; exact hul
     · exact SV.of_mono hmono _ e1
   · have hl:look (mkC P n u sl ob ev).sl t=undefS:=look_none fun p hp=>by
      rcases List.mem_append.1 hp with hp | hp
      · have:=List.all_eq_true.1 hn p hp
        rw [Nat.blt_eq] at this
        omega
      · obtain ⟨t',ht',rfl⟩:=List.mem_map.1 hp
        have:=List.mem_range.1 ht'
        dsimp only
        omega
     rw [hl]; rfl
 · show m0≤ob.length∧m0≤ob.length
   omega
 · intro k j i D D' h1 h2
   exfalso
   by_cases e:k=u
   · have:=(hsrc k _ h1).1 e
     cases this
   · obtain ⟨y,_,hkd,_⟩:=(hsrc k _ h1).2.1 e
     cases y<;>(cases hkd; done)
def HdOk (P:Program) (m0 n:Nat) (N:Nat) (w0:World) (β0:Env) (Q:Exit→Act→World→Prop) (C:Cf P) (p:Code × List Kf):Prop :=
 ∀ (β:Env) (a:Act) (w:World),(∀ k,k<m0→β k=β0 k)→Sync P m0 n (bd0 N m0) w0 C β a w→Rounds P p.1 (post P Q p.2) a w
theorem pieceE_parts {P:Program} {m0 n:Nat} {c:Code} {ks:List Kf} {f:Cf P} {u:Nat} {sl:List (Nat × SV)} {ob:List Ob} {σ:List Nat} (ev:List (Ev P)) (he:∀ β,Eqs.ok (pieceE P m0 n (some (.head c ks f)) u sl ob σ β)) :
  f.good∧∀ {N:Nat} {w0:World} {β:Env} {a:Act} {w:World},Sync P m0 n (bd0 N m0) w0 f β a w→∃ β':Env,(∀ k,k<m0→β' k=β k)∧Sync P m0 n (bd0 N m0) w0 (mkC P n u sl ob ev) β' a w:=by
 refine ⟨fun β x hx=>eqsOf_ok (Eqs.right (Eqs.right (Eqs.right (he β)))) x hx,fun {N w0 β a w} hs=>?_⟩
 have h:=he β
 have h1:=bif_ok (Eqs.left h)
 rw [Bool.and_eq_true,Bool.and_eq_true] at h1
 exact wk_sync h1.1.1 h1.2 (Eqs.left (Eqs.right h)) (Eqs.left (Eqs.right (Eqs.right h))) hs
theorem piece_ok {P:Program} {m0 n:Nat} {N:Nat} {w0:World} {β0:Env} {Q:Exit→Act→World→Prop} {Ns:List (Nat × Nat)} {m:Nat} {C:Cf P} {p p':Code × List Kf} {u:Nat} {sl:List (Nat × SV)} {ob:List Ob} (ev:List (Ev P)) (σ:List Nat) (hm:P.follows .mixedOrders=true)
  (hp:(runP P m0 n Ns m (some p.1) (.lp p.1::p.2) C).bind Stop.pos=some p') (he:∀ β,Eqs.ok (pieceE P m0 n (runP P m0 n Ns m (some p.1) (.lp p.1::p.2) C) u sl ob σ β))
  (hH:HdOk P m0 n N w0 β0 Q (mkC P n u sl ob ev) p'):HdOk P m0 n N w0 β0 Q C p:=by
 intro β a w hβ hs
 cases hr:runP P m0 n Ns m (some p.1) (.lp p.1::p.2) C with
 | none=>rw [hr] at hp; cases hp
 | some s =>
  rw [hr] at hp he
  cases s with
  | ended f=>cases hp
  | head c ks f =>
   obtain rfl:(c,ks)=p':=Option.some.inj hp
   obtain ⟨hg,hw⟩:=pieceE_parts ev he
   obtain ⟨_,_,r3⟩:=runP_ok hm _ _ _ _ _ hr ⟨hs.q,hs.uq⟩
   refine rounds_one (r3 hg hs Q fun β' a' w' e s'=>?_)
   obtain ⟨β'',e2,s2⟩:=hw s'
   exact hH β'' a' w' (fun k hk=>(e2 k hk).trans ((e k hk).trans (hβ k hk))) s2
def Said (P:Program) (fn:Func) (m0:Nat) (res:SV) (outs:List (Nat × Ob)) (β:Env) (w:World) (e:Ending) (w':World):Prop :=
 ∃ (β':Env) (q:Nat→Bool) (obj:Nat→Option Ob),(∀ k,k<m0→β' k=β k)∧e=.returned (res.den β')∧res.of q=true∧(∀ p∈outs,∀ c,(β' p.1).F c→w.heap.size≤c∨∃ i,i<m0∧(β i).F c)∧holdsAll β' w' outs∧Fin w w'
theorem fin1_parts {P:Program} {fn:Func} {m0 n:Nat} {res:SV} {outs:List (Nat × Ob)} {f:Cf P} (h:∀ β,Eqs.ok (fin1 P fn m0 n res outs f β)):f.good∧∀ {β0:Env} {w:World} {β':Env} {a':Act} {w':World},(∀ k,k<m0→β' k=β0 k)→Sync P m0 n (bd0 w.heap.size m0) w f β' a' w' →
  bodyPost P fn (Said P fn m0 res outs β0 w) .normal a' w'∧bodyPost P fn (Said P fn m0 res outs β0 w) .ret a' w':=by
 have fin:∃ r:R1 Value,run1 P m0 false (results fn (tmpsS idE f.sl n)) f.q f.ob []=some r∧res.of f.q=true∧r.ob.length=f.ob.length ∧
   ∀ β,Eqs.ok (chk P β (results fn (tmpsS β f.sl n)) r.tr.reverse (fun u=>[(.v u,.v (res.den β))])++(needEqs f.q f.ob outs++eqsOf β f.cs)):=by
  cases hx:run1 P m0 false (results fn (tmpsS idE f.sl n)) f.q f.ob [] with
  | none=>have:=h idE; unfold fin1 at this; rw [hx] at this; exact (Eqs.no_ok this).elim
  | some r =>
   obtain ⟨ra,rq,rob,rtr⟩:=r
   cases hc:(res.of f.q&&Nat.beq rob.length f.ob.length&&Nat.beq f.ev.length 0) with
   | false=>have:=h idE; unfold fin1 at this; rw [hx] at this; dsimp only at this; rw [hc] at this; exact (Eqs.no_ok this).elim
   | true =>
    have h3:=hc
    simp only [Bool.and_eq_true,Nat.beq_eq] at hc
    refine ⟨_,rfl,hc.1.1,hc.1.2,fun β=>?_⟩
    have:=h β
    unfold fin1 at this
    rw [hx] at this
    dsimp only at this
    rw [h3] at this
    exact this
 obtain ⟨r,f1,f2,f3,f4⟩:=fin
 refine ⟨fun β x hx=>eqsOf_ok (fun p hp=>f4 β p (List.mem_append.2 (.inr (List.mem_append.2 (.inr hp))))) x hx,?_⟩
 intro β0 w β' a' w' e s
 obtain ⟨h5,_,_,tr,h8,h9⟩:=run1_ok _ _ _ _ _ f1 (fun k hk=>(s.q k).1 hk)
 obtain ⟨k1,obj',k2,k3,k4⟩:=h9 _ _ _ _ _ _ s.good (fun k hk=>⟨hk,rfl⟩) (fun k a b=>by omega) s.m0.1
 have h6:=f4 β'
 rw [h8,List.append_nil,List.reverse_reverse] at h6
 have h7:Eqs.ok (chk P β' (results fn (tmpsS β' f.sl n)) tr (fun u=>[(.v u,.v (res.den β'))])):=fun p hp=>h6 p (List.mem_append.2 (.inl hp))
 obtain ⟨v,hv,hv2⟩:=chk_run _ _ _ h7 k1
 obtain ⟨e1,_⟩:=Eqs.cons_ok hv2
 injection e1 with e1
 subst e1
 rw [f3,rangeQ_self] at k4
 have hend:trEnd β' w' tr=w':=by
  obtain ⟨tr2,x1,x2⟩:=run1_still _ _ _ _ _ f1 (fun k hk=>(s.q k).1 hk) f3
  rw [h8,List.append_nil,List.append_nil] at x1
  rw [List.reverse_inj.1 x1]
  exact x2 β' w'
 rw [hend] at hv k4
 rw [← tmps_eq s.sl] at hv
 have hout:∀ p:Nat × Ob,f.q p.1=true→∀ c,(β' p.1).F c→w.heap.size≤c∨∃ i,i<m0∧(β0 i).F c:=fun p hp c hc=>by
  by_cases h0:m0≤p.1
  · exact (s.good.fr p.1 hp h0 c hc).imp (fun a=>a.elim id False.elim) fun ⟨i,i1,i2⟩=>⟨i,i1,by rw [← e i i1]; exact i2⟩
  · exact .inr ⟨p.1,by omega,by rw [← e p.1 (by omega)]; exact hc⟩
 have hneed:Eqs.ok (needEqs f.q f.ob outs):=fun p hp=>f4 β' p (List.mem_append.2 (.inr (List.mem_append.2 (.inl hp))))
 have hres:bodyPost P fn (Said P fn m0 res outs β0 w) .normal a' w':=⟨s.defers,_,hv,β',f.q,obj',e,rfl,f2,fun p hp c hc=>hout p (needs_q _ hneed p hp) c hc,needs_hold s.good (fun k hk=>⟨hk,rfl⟩) _ hneed,⟨k4.bel.below⟩⟩
 exact ⟨hres,hres⟩
theorem last_ok {P:Program} {fn:Func} {m0 n:Nat} {w:World} {β0:Env} {res:SV} {outs:List (Nat × Ob)} {Ns:List (Nat × Nat)} {m:Nat} {C:Cf P} {p:Code × List Kf} (hm:P.follows .mixedOrders=true)
  (he:∀ β,Eqs.ok (lastE P fn m0 n res outs (runP P m0 n Ns m (some p.1) (.lp p.1::p.2) C) β)):HdOk P m0 n w.heap.size w β0 (bodyPost P fn (Said P fn m0 res outs β0 w)) C p:=by
 intro β a w1 hβ hs
 cases hr:runP P m0 n Ns m (some p.1) (.lp p.1::p.2) C with
 | none=>have:=he idE; rw [hr] at this; exact (Eqs.no_ok this).elim
 | some s =>
  rw [hr] at he
  cases s with
  | head c ks f=>exact (Eqs.no_ok (he idE)).elim
  | ended f =>
   obtain ⟨hg,hw⟩:=fin1_parts he
   obtain ⟨_,_,r3⟩:=runP_ok hm _ _ _ _ _ hr ⟨hs.q,hs.uq⟩
   exact rounds_one (r3 hg hs _ fun β' a' w' e s'=>hw (fun k hk=>(e k hk).trans (hβ k hk)) s')
def startP (P:Program) (fn:Func) (args:List SV) (obs:List Ob) (evs:List (Ev P)) (Ns:List (Nat × Nat)) (m:Nat):Option (Stop P):=match fn.body with
 | some c=>runP P obs.length (sizeS fn args) Ns m (some c) [] ⟨startS args 0,fun k=>Nat.blt k obs.length,obs,evs,[]⟩
 | none=>none
theorem sx_cut {P:Program} {f:FuncId} {fn:Func} (args:List SV) (obs:List Ob) (evs ev:List (Ev P)) (Ns:List (Nat × Nat)) (m:Nat) (res:SV) (outs:List (Nat × Ob)) (hf:P.funcs[f]?=some fn) (hm:P.follows .mixedOrders=true) {u:Nat} {sl:List (Nat × SV)} {ob:List Ob} {σ:List Nat} {p':Code × List Kf}
  (hp:(startP P fn args obs evs Ns m).bind Stop.pos=some p') (he:∀ β,Eqs.ok (pieceE P obs.length (sizeS fn args) (startP P fn args obs evs Ns m) u sl ob σ β))
  (hargs:args.all (SV.of fun k=>Nat.blt k obs.length)=true) (hobs:obs.all (fun x=>x.of (fun k=>Nat.blt k obs.length)&&x.own)=true) (β:Env) (w:World) (hh:∀ (k:Nat) (o:Ob),obs[k]?=some o→o.holds β w (β k))
  (hH:HdOk P obs.length (sizeS fn args) w.heap.size w β (bodyPost P fn (Said P fn obs.length res outs β w)) (mkC P (sizeS fn args) u sl ob ev) p') :
  Calls P f (args.map (SV.den β)).toArray w (Said P fn obs.length res outs β w):=by
 have hnal:∀ (k r:Nat) (D:Thing),obs[k]?≠some (.al r D):=fun k r D ho=>by
  have:=List.all_eq_true.1 hobs _ (List.mem_of_getElem? ho)
  simp [Ob.own] at this
 have huq:UniqAl obs:=fun k j i D _ h1 _=>absurd h1 (hnal k i D)
 have hlt:∀ k,k<obs.length→∀ c,(β k).F c→c<w.heap.size:=fun k hk c hc=>by
  have h:=hh k _ (List.getElem?_eq_getElem hk)
  cases hx:obs[k] with
  | box cs t=>rw [hx] at h; rw [(h.1.1 c).1 hc]; exact heap_lt h.2
  | th D=>rw [hx] at h; exact D.st.lt _ _ h c hc
  | al r D=>rw [hx] at h; exact D.st.lt _ _ h c hc
  | pl n=>rw [hx] at h; rw [(h.1.1 c).1 hc]; exact h.2.lt
  | row cs t n sz=>rw [hx] at h; rw [(h.1.1 c).1 hc]; exact heap_lt h.2.choose_spec.1
  | ow D t=>rw [hx] at h; exact D.st.lt _ _ h.2 c hc
  | dead =>
   have:=List.all_eq_true.1 hobs _ (List.mem_of_getElem? (List.getElem?_eq_getElem hk))
   rw [hx] at this
   simp [Ob.own] at this
 cases hb:fn.body with
 | none=>unfold startP at hp; rw [hb] at hp; cases hp
 | some c =>
  have hst:startP P fn args obs evs Ns m=runP P obs.length (sizeS fn args) Ns m (some c) [] ⟨startS args 0,fun k=>Nat.blt k obs.length,obs,evs,[]⟩:=by unfold startP; rw [hb]
  rw [hst] at hp he
  cases hr:runP P obs.length (sizeS fn args) Ns m (some c) [] ⟨startS args 0,fun k=>Nat.blt k obs.length,obs,evs,[]⟩ with
  | none=>rw [hr] at hp; cases hp
  | some s =>
   rw [hr] at hp he
   cases s with
   | ended f=>cases hp
   | head c1 ks1 f1 =>
    obtain rfl:(c1,ks1)=p':=Option.some.inj hp
    obtain ⟨hg,hw⟩:=pieceE_parts ev he
    obtain ⟨_,_,r3⟩:=runP_ok hm _ _ _ _ _ hr ⟨fun k=>by dsimp only; rw [Nat.blt_eq],huq⟩
    refine calls_of_wp hf hb (r3 hg (B0:=bd0 w.heap.size obs.length) (w0:=w) (β:=β) ⟨⟨Keep.refl _ _,Nat.le_refl _,fun k o hk ho=>⟨hh k o ho,(Bool.and_eq_true _ _▸List.all_eq_true.1 hobs o (List.mem_of_getElem? ho)).1⟩,fun k hk=>hlt k (by simpa [Nat.blt_eq] using hk),fun k j hk _ _ hm=>?_,fun k _ hk hm=>?_,fun k hk hm=>?_,fun i hi=>by rw [Nat.blt_eq]; exact hi,fun k r D _ ho=>?_,fun k r D _ ho=>absurd ho (hnal k r D),fun k i _ hi _ hm=>by rw [Nat.blt_eq] at hi; omega⟩,fun k=>by dsimp only; rw [Nat.blt_eq],⟨?_,fun t=>?_⟩,fun t=>?_,⟨Nat.le_refl _,Nat.le_refl _⟩,rfl,huq⟩ _ fun β' a' w' e s=>?_)
    · rw [Nat.blt_eq] at hk; omega
    · rw [Nat.blt_eq] at hk; omega
    · rw [Nat.blt_eq] at hk; omega
    · exact absurd ho (hnal k r D)
    · simp [sizeS]
    · rw [look_start,if_pos (Nat.zero_le _),Nat.sub_zero]
      simp only [Array.getD_eq_getD_getElem?,Array.getElem?_append,List.size_toArray,List.length_map,List.getElem?_toArray,List.getElem?_map]
      split
      · rename_i hlt2
        rw [List.getElem?_eq_getElem hlt2]
        rfl
      · rename_i hge
        rw [List.getElem?_eq_none (by omega)]
        simp [Array.getElem?_replicate]
        split<;>rfl
    · dsimp only
      rw [look_start,if_pos (Nat.zero_le _),Nat.sub_zero]
      cases hx:args[t]? with
      | none=>rfl
      | some x=>exact List.all_eq_true.1 hargs x (List.mem_of_getElem? hx)
    · obtain ⟨β'',e2,s2⟩:=hw s
      exact hH β'' a' w' (fun k hk=>(e2 k hk).trans (e k hk)) s2
end Go.Proofs.YtpccljaooghafaaGreat.Y
end
section
namespace Go.Proofs.YtpccljaooghafaaGreat.Y
open Go Go.RowKit
set_option maxRecDepth 100000
def tcQ (f g:RQ):RQ:=pls f g (-(fpr f g)) (fpr f f)
section
variable {f g:RQ} (hf:RSz 64 f) (hg:RSz 64 g)
include hf hg in
theorem tc_pls:RSz 2000 (tcQ f g):=(pls_sz hf hg (fpr_sz hf hg).neg (fpr_sz hf hf)).mono (by decide)
noncomputable def tcE:List (Ev Tryz.prog) :=
 [mkR,(sMtProd (hf.mono (by decide)) (hg.mono (by decide))).e,fNeg (fpr f g),(sMtProd (hf.mono (by decide)) (hf.mono (by decide))).e,(sMtPlus (hf.mono (by decide)) (hg.mono (by decide)) ((fpr_sz hf hg).neg.mono (by decide)) ((fpr_sz hf hf).mono (by decide))).e]
noncomputable def sTouchInf (h:decide ((tcQ f g).a=0)=true):Spec Tryz.prog :=
 Spec.auto Tryz.call248 [rgV 0,rgV 4] (rgT f++rgT g) (.one (.a [.b (.v (.bool true)),.b (.v (.pointer none)),.b (.v (.pointer none))])) [] (tcE hf hg++sgR 20 h) [(1,12)] 800 Tryz.func248 hmA (by kernel_rfl) (fun β=>by kernel_rfl)
end
def rcQ (f:RQ):GQ:=gscale ⟨-f.b.re,f.b.im⟩ (Rat.divInt 1 1/f.a)
noncomputable def sR7Cmp {p q:Pt} (hp:FitP p) (hq:FitP q):Spec Tryz.prog :=
 ⟨43,Tryz.call43,[svP p,svP q],[],.one (svI (ordI p q)),[],fun β w hh=>by
  cases p<;>cases q
  · exact spec_auto (args:=[svP .inf,svP .inf]) (obs:=[]) (evs:=[]) (Ns:=[]) (m:=800) Tryz.func43 hmA (fun β=>by kernel_rfl) (by kernel_rfl) β w hh
  · rename_i z
    exact spec_auto (args:=[svP .inf,svP (.fin z)]) (obs:=[]) (evs:=[]) (Ns:=[]) (m:=800) Tryz.func43 hmA (fun β=>by kernel_rfl) (by kernel_rfl) β w hh
  · rename_i z
    exact spec_auto (args:=[svP (.fin z),svP .inf]) (obs:=[]) (evs:=[]) (Ns:=[]) (m:=800) Tryz.func43 hmA (fun β=>by kernel_rfl) (by kernel_rfl) β w hh
  · rename_i z u
    exact spec_auto (args:=[svP (.fin z),svP (.fin u)]) (obs:=[]) (evs:=[(sR4Cmp (z:=z) (w:=u) hp hq rfl).e]) (Ns:=[]) (m:=800) Tryz.func43 hmA (fun β=>by kernel_rfl) (by kernel_rfl) β w hh,by cases p<;>cases q<;>kernel_rfl⟩
theorem rgJ {j:Nat} {x:Rat} (h:Sz j x):GSz (j+1) (rg x):=⟨h.mono (by omega),sz_zero.mono (by omega)⟩
section
variable {j:Nat} {f:RQ} (hf:RSz j f) (hj:j≤100000)
include hf in
theorem wymJ:GSz (2*j+5) (gmul (rg f.b.im) (gint 0 1)):=((rgJ hf.b.2).mul gi_sz).mono (by omega)
include hf in
theorem wy0J:GSz (3*j+7) (wy0 f):=((rgJ hf.b.1).add (wymJ hf)).mono (by omega)
include hf in
theorem wayJ:GSz (3*j+7) (wayQ f):=(wy0J hf).conj
include hf in
theorem cenJ (h0:f.a≠0):GSz (4*j+7) (cenQ f):=((wy0J hf).conj.neg.scale (hf.a.inv h0)).mono (by omega)
theorem leKM {a:Nat} (h:a≤1000000):a≤KM:=Nat.le_trans h (by decide)
theorem leKB {a:Nat} (h:a≤1000000):a≤KB:=Nat.le_trans h (by decide)
noncomputable def wyJE:List (Ev Tryz.prog):=[(sERealG f.b.re).e,(sERealG f.b.im).e,(sInt 0 1 (by decide) (by decide)).e,(sMul ((rgJ hf.b.2).mono (leKM (by omega))) (gi_sz.mono (by decide))).e,(sAdd ((rgJ hf.b.1).mono (leKM (by omega))) ((wymJ hf).mono (leKM (by omega)))).e]
noncomputable def sCentreJ (h0:f.a≠0):Spec Tryz.prog :=
 Spec.auto Tryz.call356 [rgV 0] (rgT f) (nV 4) (gT (cenQ f))
  (wyJE hf hj++[(sConj (wy0 f)).e,(sNeg (gconj (wy0 f))).e,mkR,fInv (hf.a.mono (leKB (by omega))) h0,(sScale ((wy0J hf).conj.neg.mono (leKB (by omega))) ((hf.a.inv h0).mono (leKB (by omega)))).e])
  [(1,10),(2,8)] 800 Tryz.func356 hmA (by kernel_rfl) (fun β=>by kernel_rfl)
end
section
variable {f g:RQ} (hf:RSz 64 f) (hg:RSz 64 g)
noncomputable def sTouchFin (h:decide ((tcQ f g).a=0)=false):Spec Tryz.prog :=
 Spec.auto Tryz.call248 [rgV 0,rgV 4] (rgT f++rgT g) (.one (.a [.b (.v (.bool false)),.b (.z 8 0),.b (.z 9 0)])) (gT (cenQ (tcQ f g)))
  (tcE hf hg++sgR 20 h++[(sCentreJ (tc_pls hf hg) (by decide) (of_decide_eq_false h)).e]) [(1,12)] 800 Tryz.func248 hmA (by kernel_rfl) (fun β=>by kernel_rfl)
end
abbrev KL:Nat:=140
abbrev KK:Nat:=64
section
variable {l k:RQ} (hl:RSz KL l) (hk:RSz KK k) (h0:k.a≠0) (hn:cuN l≠0)
include hl hk h0 in
theorem dP_sz:GSz 1400 (cuP l k):=((cenJ hk h0).mul (wayJ hl).conj).mono (by decide)
include hl hk h0 in
theorem dV_sz:Sz 1545 (cuV l k):=(((dP_sz hl hk h0).1.mul i21_sz).add hl.c).mono (by decide)
include hl in
theorem dN_sz:Sz 1710 (cuN l):=(wayJ hl).norm.mono (by decide)
include hk h0 in
theorem dR_sz:Sz 660 (cuR k):=(div_sz (fpr_sz hk hk) (hk.a.mul hk.a) (mul_ne h0 h0)).mono (by decide)
include hl hk h0 hn in
theorem dW_sz:Sz 4802 (cuV l k*cuV l k/(cuN l*i41)):=(div_sz ((dV_sz hl hk h0).mul (dV_sz hl hk h0)) ((dN_sz hl).mul i41_sz) (mul_ne hn i41_ne)).mono (by decide)
include hl hk h0 hn in
theorem dX_sz:Sz 7173 (cuX l k):=(div_sz ((dR_sz hk h0).sub (dW_sz hl hk h0 hn)) (dN_sz hl) hn).mono (by decide)
end
theorem rootB_of {x:Rat} (h0:0≤x.num) (hx:Sz 7173 x):∃ a b:Nat,RootB x x.num.natAbs x.den a b:=by
 have key:∀ J:Nat,J≤7173→∀ n:Nat,sz (n:Int)≤J→∃ a:Nat,a*a≤n∧n<(a+1)*(a+1)∧sz (a:Int)≤KS:=fun J hJ n hn=>by
  refine ⟨n.sqrt,Nat.sqrt_le n,Nat.lt_succ_sqrt n,?_⟩
  have h1:n<256^J:=by have:=sz_le.1 hn; rwa [Int.natAbs_natCast] at this
  refine sz_le.2 ?_
  rw [Int.natAbs_natCast]
  obtain ⟨K,hK⟩:∃ K:Nat,K=KS:=⟨_,rfl⟩
  rw [← hK]
  rcases Nat.lt_or_ge n.sqrt (256^K) with h | h
  · exact h
  · exfalso
    have h2:=Nat.mul_le_mul h h
    rw [← Nat.pow_add] at h2
    have h3:=Nat.sqrt_le n
    have h4:256^J≤256^(K+K):=Nat.pow_le_pow_right (by decide) (Nat.le_trans hJ (by rw [hK]; decide))
    exact absurd (Nat.lt_of_le_of_lt (Nat.le_trans h2 h3) h1) (Nat.not_lt.2 h4)
 obtain ⟨a,a1,a2,a3⟩:=key 7173 (Nat.le_refl _) x.num.natAbs (by rw [Int.natAbs_of_nonneg h0]; exact hx.1)
 obtain ⟨b,b1,b2,b3⟩:=key 7173 (Nat.le_refl _) x.den hx.2
 have hp:=x.den_pos
 have hb0:(b:Int)≠0:=by
  rintro e
  obtain rfl:b=0:=by omega
  have:x.den<1:=b2
  omega
 obtain ⟨J,hJ⟩:∃ J:Nat,J=7173:=⟨_,rfl⟩
 have l1:x.num.natAbs<256^J:=sz_le.1 (by rw [hJ]; exact hx.1)
 have l2:x.den<256^J:=by have:=sz_le.1 (show sz (x.den:Int)≤J by rw [hJ]; exact hx.2); rwa [Int.natAbs_natCast] at this
 exact ⟨a,b,(Int.natAbs_of_nonneg h0).symm,rfl,a1,a2,b1,b2,dig_big l1 (by rw [hJ]; decide),dig_big l2 (by rw [hJ]; decide),hb0,a3,b3⟩
def lnD (f g:RQ):Rat:=f.b.im*g.b.re-f.b.re*g.b.im
def lnV (f g:RQ) (x y:Rat):Rat:=(y*f.c-x*g.c)/(lnD f g*i21)
def lnZ (f g:RQ):GQ:=gadd (rg (lnV f g f.b.im g.b.im)) (gmul (rg (lnV f g f.b.re g.b.re)) (gint 0 1))
section
variable {f g:RQ} (hf:RSz 64 f) (hg:RSz 64 g) (h0:lnD f g≠0)
include hf hg in
theorem lnD_sz:Sz 257 (lnD f g):=((hf.b.2.mul hg.b.1).sub (hf.b.1.mul hg.b.2)).mono (by decide)
include hf hg h0 in
theorem lnV_sz {x y:Rat} (hx:Sz 64 x) (hy:Sz 64 y):Sz 515 (lnV f g x y):=(div_sz ((hy.mul hf.c).sub (hx.mul hg.c)) ((lnD_sz hf hg).mul i21_sz) (mul_ne h0 i21_ne)).mono (by decide)
abbrev lnOb (f g:RQ):List Ob:=[(ratT f.a).ob,(ratT f.b.re).ob,(ratT f.b.im).ob,(ratT f.c).ob,(ratT g.a).ob,(ratT g.b.re).ob,(ratT g.b.im).ob,(ratT g.c).ob,(ratT (lnD f g)).ob,.box [.b (.z 4 0),.b (.z 5 0),.b (.z 6 0),.b (.z 7 0)] FRT,.box [.b (.z 0 0),.b (.z 1 0),.b (.z 2 0),.b (.z 3 0)] FRT,.box [.b (.z 8 0)] PRT]
noncomputable def lnsV {x y:Rat} (hx:Sz 64 x) (hy:Sz 64 y):List (Ev Tryz.prog) :=
 [(sMtMul (hy.mono (by decide)) (hf.c.mono (by decide))).e,(sMtMul (hx.mono (by decide)) (hg.c.mono (by decide))).e,(sMtSub ((hy.mul hf.c).mono (by decide)) ((hx.mul hg.c).mono (by decide))).e,(sMtNum 2).e,(sMtMul ((lnD_sz hf hg).mono (by decide)) (i21_sz.mono (by decide))).e,
  (sMtQuo (((hy.mul hf.c).sub (hx.mul hg.c)).mono (by decide)) (((lnD_sz hf hg).mul i21_sz).mono (by decide)) (mul_ne h0 i21_ne)).e]
abbrev lnA (i:Int):List SV:=[.one (svI i),.one (.c (.b (.p 9 0))),.one (.c (.b (.p 10 0))),.one (.c (.b (.p 11 0)))]
noncomputable def sLn2:OSpec Tryz.prog :=
 OSpec.auto Tryz.call358 (lnA 2) (lnOb f g) (rV 12) [lnV f g f.b.im g.b.im] (lnsV hf hg h0 hf.b.2 hg.b.2) [(1,14),(2,6)] 800 Tryz.func358 hmA (by kernel_rfl) (fun β=>by kernel_rfl)
noncomputable def sLn1:OSpec Tryz.prog :=
 OSpec.auto Tryz.call358 (lnA 1) (lnOb f g) (rV 12) [lnV f g f.b.re g.b.re] (lnsV hf hg h0 hf.b.1 hg.b.1) [(1,14),(2,6)] 800 Tryz.func358 hmA (by kernel_rfl) (fun β=>by kernel_rfl)
noncomputable def lnsE:List (Ev Tryz.prog) :=
 have h2:=lnV_sz hf hg h0 hf.b.2 hg.b.2
 have h1:=lnV_sz hf hg h0 hf.b.1 hg.b.1
 [(sMtMul (hf.b.2.mono (by decide)) (hg.b.1.mono (by decide))).e,(sMtMul (hf.b.1.mono (by decide)) (hg.b.2.mono (by decide))).e,(sMtSub ((hf.b.2.mul hg.b.1).mono (by decide)) ((hf.b.1.mul hg.b.2).mono (by decide))).e,(sLn2 hf hg h0).e,(sERealG (lnV f g f.b.im g.b.im)).e,(sLn1 hf hg h0).e,(sERealG (lnV f g f.b.re g.b.re)).e,(sInt 0 1 (by decide) (by decide)).e,
  (sMul ((rgJ h1).mono (by decide)) (gi_sz.mono (by decide))).e,(sAdd ((rgJ h2).mono (by decide)) (((rgJ h1).mul gi_sz).mono (by decide))).e]
def lnO (z:GQ):List (Nat × Ob):=[(27,.box [.b (.v (.bool false)),.b (.z 24 0),.b (.z 25 0),.b (.v (.bool true)),.b (.v (.pointer none)),.b (.v (.pointer none))] PLT),(24,(ratM z.re).ob),(25,(ratM z.im).ob)]
abbrev lnNs:List (Nat × Nat):=[(1,12)]
theorem lns_eqs (β:Env):(allS Tryz.prog Tryz.f249 [rgV 0,rgV 4] ((rgT f++rgT g).map Thing.ob) (lnsE hf hg h0) lnNs 800 (.one (.c (.b (.s 27 0 2 2)))) (lnO (lnZ f g)) β).map Prod.fst=(allS Tryz.prog Tryz.f249 [rgV 0,rgV 4] ((rgT f++rgT g).map Thing.ob) (lnsE hf hg h0) lnNs 800 (.one (.c (.b (.s 27 0 2 2)))) (lnO (lnZ f g)) β).map Prod.snd:=by kernel_rfl
end
abbrev plI (z:GQ):List Cd:=[.v (.bool false),.r z.re,.r z.im,.v (.bool true),.r 0,.r 0]
theorem lns_row {f g:RQ} {z:GQ} {evs:List (Ev Tryz.prog)} (h:∀ β,(allS Tryz.prog Tryz.f249 [rgV 0,rgV 4] ((rgT f++rgT g).map Thing.ob) evs lnNs 800 (.one (.c (.b (.s 27 0 2 2)))) (lnO z) β).map Prod.fst=(allS Tryz.prog Tryz.f249 [rgV 0,rgV 4] ((rgT f++rgT g).map Thing.ob) evs lnNs 800 (.one (.c (.b (.s 27 0 2 2)))) (lnO z) β).map Prod.snd)
  (β:Env) (w:World) (hh:∀ (i:Nat) (t:Thing),(rgT f++rgT g)[i]?=some t→t.D w (β i)) :
  Calls Tryz.prog 249 (([rgV 0,rgV 4]:List SV).map (SV.den β)).toArray w fun e u=>∃ xs:List Pl,freshS β w 8 xs∧e=.returned ((SV.one (.c (.b (.y 8 6 2)))).den (extE β 8 xs))∧newHold u [rowT PLT (plI z)] xs∧Below w.heap.size w u:=by
 refine (sx (P:=Tryz.prog) [rgV 0,rgV 4] ((rgT f++rgT g).map Thing.ob) evs lnNs 800 (.one (.c (.b (.s 27 0 2 2)))) (lnO z) Tryz.func249 hmA (fun β=>ok_of_maps (h β)) (by kernel_rfl) (by kernel_rfl) β w (fun i o ho=>?_)).mono ?_
 · rw [List.getElem?_map] at ho
   cases hx:(rgT f++rgT g)[i]? with
   | none=>rw [hx] at ho; cases ho
   | some t=>rw [hx] at ho; obtain rfl:=Option.some.inj ho; exact hh i t hx
 · rintro e u ⟨β',q',obj,e1,rfl,e2,e4,e5,g0⟩
   have hor:∀ (i:Nat) (x:Rat),(i,(ratM x).ob)∈lnO z→OR0 x u (β' i):=fun i x hi=>e5 _ hi
   have o1:=hor 24 z.re (by simp [lnO])
   have o2:=hor 25 z.im (by simp [lnO])
   obtain ⟨hone,hcur⟩:=e5 _ (List.mem_cons_self ..)
   dsimp only at hone hcur
   refine ⟨[⟨(β' 27).b,fun i=>match i with | 1=>(β' 24).v 0 | 2=>(β' 25).v 0 | 6=>some ⟨(β' 27).b,0,none⟩ | _=>none,fun _=>2,fun c=>c=(β' 27).b∨(β' 24).F c∨(β' 25).F c,fun _=>undef⟩],fun x hx c hc=>?_,rfl,⟨⟨⟨.inl rfl,_,hcur,rfl⟩,⟨⟨trivial,or_cd o1 rfl fun c hc=>.inr (.inl hc),or_cd o2 rfl fun c hc=>.inr (.inr hc),trivial,.inl ⟨rfl,rfl⟩,.inl ⟨rfl,rfl⟩,trivial⟩,rfl⟩,fun c hc=>?_⟩,trivial⟩,g0.bel⟩
   · obtain rfl:=List.mem_singleton.1 hx
     have h4:∀ p∈lnO z,∀ c,(β' p.1).F c→w.heap.size≤c∨∃ i,i<8∧(β i).F c:=e4
     rcases hc with rfl | hc | hc
     · exact h4 _ (List.mem_cons_self ..) _ ((hone.1 _).2 rfl)
     · exact h4 (24,(ratM z.re).ob) (by simp [lnO]) c hc
     · exact h4 (25,(ratM z.im).ob) (by simp [lnO]) c hc
   · rcases hc with rfl | hc | hc
     · exact heap_lt hcur
     · exact (or_stable _).lt u _ o1 c hc
     · exact (or_stable _).lt u _ o2 c hc
noncomputable def sLines {f g:RQ} (hf:RSz 64 f) (hg:RSz 64 g) (h0:lnD f g≠0):Spec Tryz.prog :=
 ⟨249,Tryz.call249,[rgV 0,rgV 4],rgT f++rgT g,.one (.c (.b (.y 8 6 2))),[rowT PLT (plI (lnZ f g))],lns_row (lns_eqs hf hg h0),by kernel_rfl⟩
theorem wy0_eq (f:RQ):wy0 f=f.b:=by
 have h0:(gint 0 1)=⟨0,1⟩:=gint01
 unfold wy0
 rw [h0]
 refine GQ.ext2 ?_ ?_<;>(simp only [gadd,gmul,rg]; grind)
theorem cen_eq (f:RQ):cenQ f=rcQ f:=by
 have h1:(Rat.divInt 1 1:Rat)=1:=of_decide_eq_true (by kernel_rfl:decide ((Rat.divInt 1 1:Rat)=1)=true)
 unfold cenQ rcQ
 rw [wy0_eq,Rat.div_def,h1]
 refine GQ.ext2 ?_ ?_<;>(simp only [gscale,gneg,gconj]; grind)
theorem way_eq (f:RQ):wayQ f=gconj f.b:=by rw [wayQ,wy0_eq]
theorem sq_pow (q:Rat):q*q=q^2:=by
 rw [Rat.pow_succ,Rat.pow_succ,Rat.pow_zero,Rat.one_mul]
theorem sq_num (q:Rat):(q*q).num=q.num*q.num∧(q*q).den=q.den*q.den:=by
 rw [sq_pow]
 refine ⟨?_,?_⟩
 · rw [Rat.num_pow,Int.pow_succ,Int.pow_succ,Int.pow_zero,Int.one_mul]
 · rw [Rat.den_pow,Nat.pow_succ,Nat.pow_succ,Nat.pow_zero,Nat.one_mul]
theorem gram_id {X N a R h V F p:Rat} (e1:X*N=R-h) (e2:R*(a*a)=F) (e3:h*(N*4)=V*V) (e4:V*a = -2*p):X*(N*a*(N*a))=N*F-p*p:=by grind
theorem sq_nonneg (x:Rat):0≤x*x:=by
 by_cases h:0≤x
 · exact Rat.mul_nonneg h h
 · have:=Rat.mul_nonneg (a:=-x) (b:=-x) (by grind) (by grind)
   grind
theorem pos_of_mul {x y:Rat} (h:0<x*(y*y)):0<x:=by
 by_cases h1:0<x
 · exact h1
 · exfalso
   have:=Rat.mul_nonneg (a:=-x) (b:=y*y) (by grind) (sq_nonneg y)
   grind
theorem i21v:i21=2:=of_decide_eq_true (by kernel_rfl:decide (i21=2)=true)
theorem i41v:i41=4:=of_decide_eq_true (by kernel_rfl:decide (i41=4)=true)
theorem div11v:(Rat.divInt 1 1:Rat)=1:=of_decide_eq_true (by kernel_rfl:decide ((Rat.divInt 1 1:Rat)=1)=true)
theorem mdiv11v:(Rat.divInt (-1) 1:Rat) = -1:=of_decide_eq_true (by kernel_rfl:decide ((Rat.divInt (-1) 1:Rat) = -1)=true)
theorem fpr_two (f g:RQ):2*fpr f g=2*(f.b.re*g.b.re+f.b.im*g.b.im)-(f.a*g.c+f.c*g.a):=by
 have h:(Rat.divInt 2 1:Rat)=2:=i21v
 unfold fpr
 rw [h]
 grind
theorem rc_a {f:RQ} (h0:f.a≠0):(rcQ f).re*f.a = -f.b.re∧(rcQ f).im*f.a=f.b.im:=by
 have h1:(Rat.divInt 1 1/f.a)*f.a=1:=by rw [div11v,Rat.div_mul_cancel h0]
 unfold rcQ gscale
 dsimp only
 exact ⟨by rw [Rat.mul_assoc,h1,Rat.mul_one],by rw [Rat.mul_assoc,h1,Rat.mul_one]⟩
theorem cuN_eq (l:RQ):cuN l=l.b.re*l.b.re+l.b.im*l.b.im:=by
 unfold cuN
 rw [way_eq]
 unfold gnorm gconj
 grind
theorem cuV_eq (l k:RQ):cuV l k=2*((rcQ k).re*l.b.re-(rcQ k).im*l.b.im)+l.c:=by
 unfold cuV cuP
 rw [way_eq,cen_eq,i21v]
 unfold gmul gconj
 grind
theorem cuV_a {l k:RQ} (ha:l.a=0) (h0:k.a≠0):cuV l k*k.a = -2*fpr l k:=by
 obtain ⟨h1,h2⟩:=rc_a h0
 have h3:=fpr_two l k
 rw [cuV_eq]
 rw [ha] at h3
 grind
theorem cut_gram {l k:RQ} (ha:l.a=0) (h0:k.a≠0) (hn:cuN l≠0):cuX l k*(cuN l*k.a*(cuN l*k.a))=cuN l*fpr k k-fpr l k*fpr l k:=by
 refine gram_id (R:=cuR k) (h:=cuV l k*cuV l k/(cuN l*i41)) (V:=cuV l k) ?_ ?_ ?_ (cuV_a ha h0)
 · unfold cuX; rw [Rat.div_mul_cancel hn]
 · unfold cuR; rw [Rat.div_mul_cancel (by intro e; rcases Rat.mul_eq_zero.1 e with h | h<;>exact h0 h)]
 · have h4:cuN l*i41≠0:=by
    rw [i41v]
    intro e
    rcases Rat.mul_eq_zero.1 e with h | h
    · exact hn h
    · exact absurd h (by decide)
   rw [← i41v,Rat.div_mul_cancel h4]
theorem fpr_line {l:RQ} (ha:l.a=0):fpr l l=cuN l:=by
 have h:=fpr_two l l
 rw [cuN_eq]
 rw [ha] at h
 grind
theorem ax_a {f g:RQ} (ha:f.a=g.a):(axQ f g).a=0:=by
 unfold axQ pls
 rw [div11v,mdiv11v,ha]
 grind
theorem ax_ff (f g:RQ):fpr (axQ f g) (axQ f g)=fpr f f-2*fpr f g+fpr g g∧fpr (axQ f g) f=fpr f f-fpr f g:=by
 have h:(Rat.divInt 2 1:Rat)=2:=i21v
 unfold fpr axQ pls
 rw [div11v,mdiv11v,h]
 constructor<;>grind
theorem gram_lines {f g:RQ} (ha:f.a=0) (hb:g.a=0):fpr f f*fpr g g-fpr f g*fpr f g=lnD f g*lnD f g:=by
 have h:(Rat.divInt 2 1:Rat)=2:=i21v
 unfold fpr lnD
 rw [ha,hb,h]
 grind
theorem gram_pos {f g:RQ} (hf:0<fpr f f) (hg:0<fpr g g) (hc:cmpQ (fsq f g) one1 = -1):fpr f g*fpr f g<fpr f f*fpr g g:=by
 unfold cmpQ at hc
 split at hc
 · rename_i h
   unfold fsq at h
   have h1:one1=1:=div11v
   rw [h1,Rat.div_lt_iff (Rat.mul_pos hf hg),Rat.one_mul] at h
   exact h
 · split at hc<;>exact absurd hc (by decide)
theorem cross_line {l k:RQ} (ha:l.a=0) (h0:k.a≠0) (hl:0<fpr l l) (h:fpr l k*fpr l k<fpr l l*fpr k k):cuN l≠0∧0<cuX l k:=by
 have hn:cuN l≠0:=by rw [← fpr_line ha]; grind
 have hg:=cut_gram ha h0 hn
 rw [← fpr_line ha] at hg
 refine ⟨hn,pos_of_mul (y:=cuN l*k.a) ?_⟩
 rw [← fpr_line ha,hg]
 grind
theorem cross_two {f g:RQ} (ha:f.a=g.a) (h0:f.a≠0) (h:fpr f g*fpr f g<fpr f f*fpr g g):0<fpr (axQ f g) (axQ f g)∧cuN (axQ f g)≠0∧0<cuX (axQ f g) f:=by
 have la:=ax_a ha
 obtain ⟨e1,e2⟩:=ax_ff f g
 have hN:=fpr_line la
 have hge:0≤cuN (axQ f g):=by
  rw [cuN_eq]
  have h1:=sq_nonneg (axQ f g).b.re
  have h2:=sq_nonneg (axQ f g).b.im
  grind
 have hgr:fpr (axQ f g) f*fpr (axQ f g) f<fpr (axQ f g) (axQ f g)*fpr f f:=by
  rw [e1,e2]
  grind
 have hne:fpr (axQ f g) (axQ f g)≠0:=by
  intro e
  rw [e,Rat.zero_mul] at hgr
  have:=sq_nonneg (fpr (axQ f g) f)
  grind
 have hp:0<fpr (axQ f g) (axQ f g):=by rw [hN] at hne ⊢; grind
 exact ⟨hp,cross_line la h0 hp hgr⟩
def xN (l:RQ):Rat:=gnorm l.b
def xV (l k:RQ):Rat:=l.a*gnorm (rcQ k)+((gmul l.b (rcQ k)).re+(gmul l.b (rcQ k)).re)+l.c
def xH (l k:RQ):Rat:=xV l k*xV l k/(i41*xN l)
def xX (l k:RQ):Rat:=(cuR k-xH l k)/xN l
theorem eq_of_mul {x y z:Rat} (hz:z≠0) (h:x*z=y*z):x=y:=by
 have:(x-y)*z=0:=by grind
 rcases Rat.mul_eq_zero.1 this with h | h
 · grind
 · exact absurd h hz
section
variable {l k:RQ} (ha:l.a=0) (hn:cuN l≠0) {y:Rat} (hy:y≠0)
theorem inv_ne {y:Rat} (hy:y≠0):y⁻¹≠0:=by
 intro e
 have:=Rat.mul_inv_cancel y hy
 rw [e,Rat.mul_zero] at this
 exact absurd this (by decide)
end
theorem two_ne {F:GQ} {l:RQ} {t:Rat} (hn:cuN l≠0) (ht:t≠0):gadd F (cuB l t)≠gsub F (cuB l t):=by
 intro e
 unfold cuB at e
 rw [way_eq,gint01] at e
 unfold gadd gsub gscale gmul gconj at e
 dsimp only at e
 injection e with e1 e2
 rw [cuN_eq] at hn
 have h1:l.b.im*t=0:=by grind
 have h2:l.b.re*t=0:=by grind
 rcases Rat.mul_eq_zero.1 h1 with h | h
 · rcases Rat.mul_eq_zero.1 h2 with h' | h'
   · rw [h,h'] at hn; exact hn (by grind)
   · exact ht h'
 · exact ht h
noncomputable def eRNegP {x:Rat} (i j n:Nat):Ev Tryz.prog:=.refill 293 Tryz.call293 (fun β=>#[.pointer (some ⟨(β i).b,0,none⟩),.pointer (some ⟨(β i).b,0,none⟩)]) [(j,(ratT x).ob)] i j 4 n (ratT (-x))
 (fun β w h hji ho hs=>by
  obtain ⟨a,ha,ka⟩:=needP (x:=x) (k:=j) h (by simp)
  have e:=one_at ho (hji▸ha)
  subst e
  exact fillP ho (rNeg_any hs ka))
noncomputable def eRNegZ {x:Rat} (i j n:Nat):Ev Tryz.prog:=.refill 293 Tryz.call293 (fun β=>#[.pointer ((β j).v 0),.pointer ((β j).v 0)]) [(j,(ratT x).ob)] i j 4 n (ratT (-x))
 (fun β w h hji ho hs=>by
  obtain ⟨a,ha,ka⟩:=needP (x:=x) (k:=j) h (by simp)
  have e:=one_at ho (hji▸ha)
  subst e
  simp only [ha.1]
  exact fillP ho (rNeg_any hs ka))
noncomputable def negN (x:Rat):Ev Tryz.prog:=.dyn (fun o _ _=>isCallB o) fun _ xs ob=>lit ob.length fun n=>match xs.getD 0 undefS with
 | .one (.c (.b (.p i _)))=>lit i fun i=>lit ((findA i ob 0).getD 0) fun j=>eRNegP (x:=x) i j n
 | .one (.c (.b (.z j _)))=>lit j fun j=>lit (alOf ob j) fun i=>eRNegZ (x:=x) i j n
 | _=>.eqv 0 undef undef rfl
def colQ (f:RQ):Nat→Rat
 | 0=>f.a
 | 1=>f.b.re
 | 2=>f.b.im
 | _=>f.c
theorem col_sz {k:Nat} {f:RQ} (h:RSz k f):∀ n,Sz k (colQ f n)
 | 0=>h.a
 | 1=>h.b.1
 | 2=>h.b.2
 | _+3=>h.c
def mt (f g h:RQ) (i a b:Nat):Rat:=colQ f i*(colQ g a*colQ h b-colQ g b*colQ h a)
def mn (z:Rat) (f g h:RQ) (a b c:Nat):Rat:=z+mt f g h a b c+mt f g h b c a+mt f g h c a b
abbrev colT (f:RQ):List Thing:=[ratT (colQ f 0),ratT (colQ f 1),ratT (colQ f 2),ratT (colQ f 3)]
def mnQ (z:Rat) (f g h:RQ):RQ:=⟨mn z f g h 1 2 3,⟨-(mn z f g h 0 2 3),mn z f g h 0 1 3⟩,-(mn z f g h 0 1 2)⟩
abbrev KMT:Nat:=5501
theorem said_spec {P:Program} {fn:Func} {obs:List Thing} {res:SV} {news:List Thing} {idx:List Nat} {β:Env} {w:World} (h2:(res.of fun k=>Nat.blt k (obs.length+news.length))=true) (h3:idx.length=news.length) {e:Ending} {w':World}
  (h:Said P fn obs.length (res.ren (backS obs.length idx)) (idx.zip (news.map Thing.ob)) β w e w'):∃ xs:List Pl,freshS β w obs.length xs∧e=.returned (res.den (extE β obs.length xs))∧newHold w' news xs∧Below w.heap.size w w':=by
 obtain ⟨β',q,obj,e1,rfl,e2,e4,e5,g⟩:=h
 have hz:(idx.zip (news.map Thing.ob)).map (fun p=>β' p.1)=idx.map β':=by
  rw [show (fun p:Nat × Ob=>β' p.1)=β' ∘ Prod.fst from rfl,← List.map_map,List.map_fst_zip (by rw [List.length_map]; omega)]
 refine ⟨idx.map β',fun x hx=>?_,?_,newHold_of h3 e5,g.bel⟩
 · rw [← hz] at hx
   obtain ⟨p,hp,rfl⟩:=List.mem_map.1 hx
   exact e4 p hp
 · rw [SV.den_ren]
   congr 1
   refine SV.den_congr (fun k hk=>?_) _ h2
   rw [Nat.blt_eq] at hk
   unfold backS
   rw [lit_eq]
   by_cases hk2:k<obs.length
   · rw [show Nat.blt k obs.length=true by rw [Nat.blt_eq]; exact hk2,cond_true,extE_out (by omega)]
     exact e1 k hk2
   · rw [show Nat.blt k obs.length=false by rw [Bool.eq_false_iff,ne_eq,Nat.blt_eq]; exact hk2,cond_false]
     have h5:k-obs.length<idx.length:=by omega
     have:=extE_in (β:=β) (n:=obs.length) (xs:=idx.map β') (i:=k-obs.length) (x:=β' idx[k-obs.length]) (by simp [h5])
     rw [show obs.length+(k-obs.length)=k by omega] at this
     rw [this,List.getD_eq_getElem?_getD,List.getElem?_eq_getElem h5,Option.getD_some]
section
variable {f g h:RQ} (hf:RSz KH f) (hg:RSz KH g) (hh:RSz KH h)
include hf hg hh in
theorem mt_sz (i a b:Nat):Sz KMT (mt f g h i a b):=((col_sz hf i).mul (((col_sz hg a).mul (col_sz hh b)).sub ((col_sz hg b).mul (col_sz hh a)))).mono (by decide)
include hf hg hh in
theorem mn_szs (a b c:Nat):Sz (1+KMT+1) (0+mt f g h a b c)∧Sz (1+KMT+1+KMT+1) (0+mt f g h a b c+mt f g h b c a)∧Sz (1+KMT+1+KMT+1+KMT+1) (mn 0 f g h a b c):=by
 have a1:=sz_zero.add (mt_sz hf hg hh a b c)
 have a2:=a1.add (mt_sz hf hg hh b c a)
 exact ⟨a1,a2,a2.add (mt_sz hf hg hh c a b)⟩
include hf hg hh in
theorem mnQ_sz:RSz 17000 (mnQ 0 f g h) :=
 ⟨(mn_szs hf hg hh 1 2 3).2.2.mono (by decide),⟨(mn_szs hf hg hh 0 2 3).2.2.neg.mono (by decide),(mn_szs hf hg hh 0 1 3).2.2.mono (by decide)⟩,(mn_szs hf hg hh 0 1 2).2.2.neg.mono (by decide)⟩
noncomputable def mtE (i a b:Nat):List (Ev Tryz.prog) :=
 [(sMtMul ((col_sz hg a).mono (by decide)) ((col_sz hh b).mono (by decide))).e,(sMtMul ((col_sz hg b).mono (by decide)) ((col_sz hh a).mono (by decide))).e,(sMtSub (((col_sz hg a).mul (col_sz hh b)).mono (by decide)) (((col_sz hg b).mul (col_sz hh a)).mono (by decide))).e,
  (sMtMul ((col_sz hf i).mono (by decide)) ((((col_sz hg a).mul (col_sz hh b)).sub ((col_sz hg b).mul (col_sz hh a))).mono (by decide))).e]
noncomputable def mnE (a b c:Nat):List (Ev Tryz.prog) :=
 have z:=mn_szs hf hg hh a b c
 mtE hf hg hh a b c++[sum0 ((mt_sz hf hg hh a b c).mono (by decide))]++mtE hf hg hh b c a++[sumN (z.1.mono (by decide)) ((mt_sz hf hg hh b c a).mono (by decide))]++mtE hf hg hh c a b++[sumN (z.2.1.mono (by decide)) ((mt_sz hf hg hh c a b).mono (by decide))]
abbrev zz12 (k:Nat):SV:=.one (.a [.b (.z k 0),.b (.z (k+1) 0),.b (.z (k+2) 0),.b (.z (k+3) 0),.b (.z (k+4) 0),.b (.z (k+5) 0),.b (.z (k+6) 0),.b (.z (k+7) 0),.b (.z (k+8) 0),.b (.z (k+9) 0),.b (.z (k+10) 0),.b (.z (k+11) 0)])
noncomputable abbrev mnF:Func:=Tryz.f274
noncomputable abbrev mnN:Nat:=sizeS mnF [zz12 0]
abbrev nil1:Lf:=.b (.v (.pointer none))
abbrev mnI (i:Int):SV:=.one (.c (.b (.v (.int .i64 i))))
abbrev mnSl (c:Int):List (Nat × SV):=[(1,.one (.c (.b (.p 13 0)))),(2,.one (.c (.b (.p 14 0)))),(3,.one (.c (.b (.p 15 0)))),(12,mnI c)]
abbrev mnOb (f g h:RQ) (cs:List Lf) (l:List Rat):List Ob :=
 (colT f++colT g++colT h).map Thing.ob++[.dead,.box [.b (.z 0 0),.b (.z 1 0),.b (.z 2 0),.b (.z 3 0),.b (.z 4 0),.b (.z 5 0),.b (.z 6 0),.b (.z 7 0),.b (.z 8 0),.b (.z 9 0),.b (.z 10 0),.b (.z 11 0)] 295,.box [nil1,nil1,nil1,nil1] FRT,.box cs FRT]++l.map fun x=>(ratT x).ob
noncomputable abbrev mnC (f g h:RQ) (c:Int) (cs:List Lf) (l:List Rat) (ev:List (Ev Tryz.prog)):Cf Tryz.prog:=mkC Tryz.prog mnN 12 (mnSl c) (mnOb f g h cs l) ev
noncomputable abbrev mnRes:SV:=(rgV 12).ren (backS 12 [16,17,18,19])
noncomputable abbrev mnOut (f g h:RQ):List (Nat × Ob):=[16,17,18,19].zip ((rgT (mnQ 0 f g h)).map Thing.ob)
abbrev mnH (β0:Env) (w:World) (f g h:RQ) (C:Cf Tryz.prog):Prop:=HdOk Tryz.prog 12 mnN w.heap.size w β0 (bodyPost Tryz.prog mnF (Said Tryz.prog mnF 12 mnRes (mnOut f g h) β0 w)) C (lpAt mnF 0)
abbrev zc (k:Nat):Lf:=.b (.z k 0)
abbrev mnNs:List (Nat × Nat):=[(18,12),(19,28)]
abbrev eqv73 (b:Bool):Ev Tryz.prog:=.eqv 73 (.bool b) (.bool b) rfl
section
variable (β0:Env) (w:World)
theorem mn_end:mnH β0 w f g h (mnC f g h 4 [zc 16,zc 17,zc 18,zc 19] [mn 0 f g h 1 2 3,-(mn 0 f g h 0 2 3),mn 0 f g h 0 1 3,-(mn 0 f g h 0 1 2)] []):=last_ok (Ns:=mnNs) (m:=200) hmA (fun β=>ok_of_maps (by kernel_rfl))
theorem mn_col3 (k:mnH β0 w f g h (mnC f g h 4 [zc 16,zc 17,zc 18,zc 19] [mn 0 f g h 1 2 3,-(mn 0 f g h 0 2 3),mn 0 f g h 0 1 3,-(mn 0 f g h 0 1 2)] [])) :
  mnH β0 w f g h (mnC f g h 3 [zc 16,zc 17,zc 18,nil1] [mn 0 f g h 1 2 3,-(mn 0 f g h 0 2 3),mn 0 f g h 0 1 3] (mnE hf hg hh 0 1 2++[eqv73 true,negN (mn 0 f g h 0 1 2),.cut])) :=
 piece_ok (Ns:=mnNs) (m:=1000) [] [0,1,2,3,4,5,6,7,8,9,10,11,0,13,14,15,16,17,18,36] hmA (by kernel_rfl) (fun β=>ok_of_maps (by kernel_rfl)) k
theorem mn_col2 (k:mnH β0 w f g h (mnC f g h 3 [zc 16,zc 17,zc 18,nil1] [mn 0 f g h 1 2 3,-(mn 0 f g h 0 2 3),mn 0 f g h 0 1 3] (mnE hf hg hh 0 1 2++[eqv73 true,negN (mn 0 f g h 0 1 2),.cut]))) :
  mnH β0 w f g h (mnC f g h 2 [zc 16,zc 17,nil1,nil1] [mn 0 f g h 1 2 3,-(mn 0 f g h 0 2 3)] (mnE hf hg hh 0 1 3++[eqv73 false,.cut])) :=
 piece_ok (Ns:=mnNs) (m:=1000) _ [0,1,2,3,4,5,6,7,8,9,10,11,0,13,14,15,16,17,34] hmA (by kernel_rfl) (fun β=>ok_of_maps (by kernel_rfl)) k
theorem mn_col1 (k:mnH β0 w f g h (mnC f g h 2 [zc 16,zc 17,nil1,nil1] [mn 0 f g h 1 2 3,-(mn 0 f g h 0 2 3)] (mnE hf hg hh 0 1 3++[eqv73 false,.cut]))) :
  mnH β0 w f g h (mnC f g h 1 [zc 16,nil1,nil1,nil1] [mn 0 f g h 1 2 3] (mnE hf hg hh 0 2 3++[eqv73 true,negN (mn 0 f g h 0 2 3),.cut])) :=
 piece_ok (Ns:=mnNs) (m:=1000) _ [0,1,2,3,4,5,6,7,8,9,10,11,0,13,14,15,16,34] hmA (by kernel_rfl) (fun β=>ok_of_maps (by kernel_rfl)) k
theorem mn_col0 (k:mnH β0 w f g h (mnC f g h 1 [zc 16,nil1,nil1,nil1] [mn 0 f g h 1 2 3] (mnE hf hg hh 0 2 3++[eqv73 true,negN (mn 0 f g h 0 2 3),.cut]))) :
  mnH β0 w f g h (mnC f g h 0 [nil1,nil1,nil1,nil1] [] (mnE hf hg hh 1 2 3++[eqv73 false,.cut])) :=
 piece_ok (Ns:=mnNs) (m:=1000) _ [0,1,2,3,4,5,6,7,8,9,10,11,0,13,14,15,32] hmA (by kernel_rfl) (fun β=>ok_of_maps (by kernel_rfl)) k
end
include hf hg hh in
theorem minors_ok (β:Env) (w:World) (hD:∀ (k:Nat) (t:Thing),(colT f++colT g++colT h)[k]?=some t→t.D w (β k)) :
  Calls Tryz.prog 274 (([zz12 0]:List SV).map (SV.den β)).toArray w fun e w'=>∃ xs:List Pl,freshS β w 12 xs∧e=.returned ((rgV 12).den (extE β 12 xs))∧newHold w' (rgT (mnQ 0 f g h)) xs∧Below w.heap.size w w' :=
 (sx_cut (P:=Tryz.prog) [zz12 0] ((colT f++colT g++colT h).map Thing.ob) [.cut] (mnE hf hg hh 1 2 3++[eqv73 false,.cut]) mnNs 200 mnRes (mnOut f g h) Tryz.func274 hmA (u:=12) (sl:=mnSl 0) (ob:=mnOb f g h [nil1,nil1,nil1,nil1] []) (σ:=[0,1,2,3,4,5,6,7,8,9,10,11,0,12,13,14]) (p':=lpAt mnF 0) (by kernel_rfl) (fun β=>ok_of_maps (by kernel_rfl)) (by kernel_rfl) (by kernel_rfl) β w (fun k o ho=>by
   rw [List.getElem?_map] at ho
   cases hx:(colT f++colT g++colT h)[k]? with
   | none=>rw [hx] at ho; cases ho
   | some t=>rw [hx] at ho; obtain rfl:=Option.some.inj ho; exact hD k t hx)
  (mn_col0 hf hg hh β w (mn_col1 hf hg hh β w (mn_col2 hf hg hh β w (mn_col3 hf hg hh β w (mn_end β w)))))).mono fun e w' h0=>said_spec (obs:=colT f++colT g++colT h) (news:=rgT (mnQ 0 f g h)) (idx:=[16,17,18,19]) (by kernel_rfl) rfl h0
noncomputable def sMinors:Spec Tryz.prog :=
 ⟨274,Tryz.call274,[zz12 0],colT f++colT g++colT h,rgV 12,rgT (mnQ 0 f g h),minors_ok hf hg hh,by kernel_rfl⟩
end
abbrev tl3A (f:Nat):List SV:=[fvV f,.one (.c (.b (.s 0 0 3 3)))]
def upQ (f:RQ):RQ:=⟨f.c/Rat.divInt (-2) 1,f.b,f.a/Rat.divInt (-2) 1⟩
theorem MayC.s1024 {f:RQ} (h:MayC f):RSz 1024 f:=⟨h.fit.1.sz,h.fit.2.1.gsz,h.fit.2.2.sz⟩
theorem up_sz {f:RQ} (h:MayC f):RSz KH (upQ f) :=
 ⟨(div_sz h.s1024.c two_sz m2_ne).mono (by decide),h.s1024.b.mono (by decide),(div_sz h.s1024.a two_sz m2_ne).mono (by decide)⟩
abbrev acQ (f g h:RQ):RQ:=mnQ 0 (upQ f) (upQ g) (upQ h)
section
variable {f g h:RQ} (hf:MayC f) (hg:MayC g) (hh:MayC h)
include hf hg hh in
theorem ac_sz:RSz 17000 (acQ f g h):=mnQ_sz (up_sz hf) (up_sz hg) (up_sz hh)
end
abbrev fm12 (f g h:RQ):List Thing:=[ratT f.a,ratT f.b.re,ratT f.b.im,ratT f.c,ratT g.a,ratT g.b.re,ratT g.b.im,ratT g.c,ratT h.a,ratT h.b.re,ratT h.b.im,ratT h.c]
abbrev rw12 (k:Nat):Ob:=.row [.b (.z k 0),.b (.z (k+1) 0),.b (.z (k+2) 0),.b (.z (k+3) 0),.b (.z (k+4) 0),.b (.z (k+5) 0),.b (.z (k+6) 0),.b (.z (k+7) 0),.b (.z (k+8) 0),.b (.z (k+9) 0),.b (.z (k+10) 0),.b (.z (k+11) 0)] FRT 3 4
theorem ptr_row {w:World} {b:Nat} {cur:Array Value} {t:TypeId} {x:Rat} {q:Option Addr} (h:w.heap[b]?=some (.cells cur t (0,0))) (hq:cur[1]?=some (.pointer q)) (k:RatAt w b 0 x):False:=by
 obtain ⟨A,m,cap,_,h1,_⟩:=k.2.1.open_
 have h2:=cell_lay (o:=1) h hq
 rw [Nat.zero_add,h2] at h1
 cases h1
theorem take_at {cur:Array Value} {l:List Value} {n:Nat} {v:Value} (h:cur.toList.take n=l) (hv:l[1]?=some v):cur[1]?=some v:=by
 rw [← h,List.getElem?_take] at hv
 split at hv
 · rwa [Array.getElem?_toList] at hv
 · cases hv
theorem open3o_ok {f g h:RQ} (hf:MayC f) (hg:MayC g) (hk:MayC h) (β:Env) (w:World) (hh:(Ob.box (oc3L f g h) 112).holds β w (β 0)) :
  Calls Tryz.prog 272 (oc3A.map (SV.den β)).toArray w fun e u=>∃ (G:Pl) (xs:List Pl),(w.heap.size≤G.b∧(∀ x∈xs,∀ c,x.F c→w.heap.size≤c)∧∀ x∈xs,¬ x.F G.b)∧e=.returned ((SV.tup [.c (.b (.r 1 3)),nI' 0]).den (extE β 1 (G::xs)))∧(rw12 2).holds (extE β 1 (G::xs)) u G∧newHold u (fm12 f g h) xs∧Below w.heap.size w u:=by
 refine (sx (P:=Tryz.prog) oc3A [.box (oc3L f g h) 112] (oc3E hf hg hk) [] 1200 (.tup [.c (.b (.r 21 3)),nI' 0]) (oc3O f g h) Tryz.func272 hmA (fun β=>ok_of_maps (oc3_eqs hf hg hk β)) (by kernel_rfl) (by kernel_rfl) β w (fun k o ho=>?_)).mono ?_
 · cases k with
   | zero=>simp only [List.getElem?_cons_zero] at ho; obtain rfl:=Option.some.inj ho; exact hh
   | succ k=>simp at ho
 · rintro e u ⟨β',q',obj,e1,rfl,e2,e4,e5,g0⟩
   have hnew:∀ y∈oc3O f g h,∀ c,(β' y.1).F c→c≠(β 0).b→w.heap.size≤c:=fun y hy c hc hne=>by
    rcases e4 y hy c hc with h | ⟨i,hi,h⟩
    · exact h
    · obtain rfl:i=0:=by simp only [List.length_singleton] at hi; omega
      exact absurd ((hh.1.1 c).1 h) hne
   have hu:u.heap[(β 0).b]?=some (.cells ((oc3L f g h).map (Lf.den β)).toArray 112 (0,0)):=by rw [g0.bel.block _ (heap_lt hh.2)]; exact hh.2
   obtain ⟨hone,cur,hcur,hcl,hn,hcm,hsz,htake⟩:=e5 (21,.row [.b (.z 2 0),.b (.z 3 0),.b (.z 4 0),.b (.z 5 0),.b (.z 9 0),.b (.z 10 0),.b (.z 11 0),.b (.z 12 0),.b (.z 16 0),.b (.z 17 0),.b (.z 18 0),.b (.z 19 0)] FRT 3 4) (by simp [oc3O])
   have hbR:w.heap.size≤(β' 21).b:=hnew _ (by simp [oc3O]) _ ((hone.1 _).2 rfl) fun e=>by
    rw [e,hu] at hcur
    have:=(Obj.cells.inj (Option.some.inj hcur)).2.1
    exact absurd this (by decide)
   have hrat:∀ (k:Nat) (x:Rat),(k,(ratT x).ob)∈oc3O f g h→PR x u (β' k)∧(∀ c,(β' k).F c→w.heap.size≤c)∧¬ (β' k).F (β' 21).b:=fun k x hk=>by
    have h:PR x u (β' k):=e5 _ hk
    refine ⟨h,fun c hc=>?_,fun hc=>?_⟩
    · obtain ⟨b,hb,hx⟩:=h
      have ec:=(hb.2 c).1 hc
      subst ec
      refine hnew _ hk c hc fun e=>?_
      rw [e] at hx
      exact str_no_rat hu hx
    · obtain ⟨b,hb,hx⟩:=h
      have ec:=(hb.2 _).1 hc
      rw [← ec] at hx
      exact ptr_row hcur (take_at htake rfl) hx
   obtain ⟨o2,n2,m2⟩:=hrat 2 f.a (by simp [oc3O])
   obtain ⟨o3,n3,m3⟩:=hrat 3 f.b.re (by simp [oc3O])
   obtain ⟨o4,n4,m4⟩:=hrat 4 f.b.im (by simp [oc3O])
   obtain ⟨o5,n5,m5⟩:=hrat 5 f.c (by simp [oc3O])
   obtain ⟨o9,n9,m9⟩:=hrat 9 g.a (by simp [oc3O])
   obtain ⟨o10,n10,m10⟩:=hrat 10 g.b.re (by simp [oc3O])
   obtain ⟨o11,n11,m11⟩:=hrat 11 g.b.im (by simp [oc3O])
   obtain ⟨o12,n12,m12⟩:=hrat 12 g.c (by simp [oc3O])
   obtain ⟨o16,n16,m16⟩:=hrat 16 h.a (by simp [oc3O])
   obtain ⟨o17,n17,m17⟩:=hrat 17 h.b.re (by simp [oc3O])
   obtain ⟨o18,n18,m18⟩:=hrat 18 h.b.im (by simp [oc3O])
   obtain ⟨o19,n19,m19⟩:=hrat 19 h.c (by simp [oc3O])
   refine ⟨β' 21,[β' 2,β' 3,β' 4,β' 5,β' 9,β' 10,β' 11,β' 12,β' 16,β' 17,β' 18,β' 19],⟨hbR,fun x hx=>?_,fun x hx=>?_⟩,rfl,⟨hone,cur,hcur,rfl,hn,hcm,hsz,htake.trans rfl⟩,⟨o2,o3,o4,o5,o9,o10,o11,o12,o16,o17,o18,o19,trivial⟩,g0.bel⟩
   · simp only [List.mem_cons,List.not_mem_nil,or_false] at hx
     rcases hx with rfl | rfl | rfl | rfl | rfl | rfl | rfl | rfl | rfl | rfl | rfl | rfl
     · exact n2
     · exact n3
     · exact n4
     · exact n5
     · exact n9
     · exact n10
     · exact n11
     · exact n12
     · exact n16
     · exact n17
     · exact n18
     · exact n19
   · simp only [List.mem_cons,List.not_mem_nil,or_false] at hx
     rcases hx with rfl | rfl | rfl | rfl | rfl | rfl | rfl | rfl | rfl | rfl | rfl | rfl
     · exact m2
     · exact m3
     · exact m4
     · exact m5
     · exact m9
     · exact m10
     · exact m11
     · exact m12
     · exact m16
     · exact m17
     · exact m18
     · exact m19
noncomputable def sOpen3O {f g h:RQ} (hf:MayC f) (hg:MayC g) (hk:MayC h):CRow Tryz.prog :=
 ⟨272,Tryz.call272,oc3A,oc3L f g h,112,rw12 2,.tup [.c (.b (.r 1 3)),nI' 0],fm12 f g h,open3o_ok hf hg hk,by kernel_rfl⟩
def acO (f g h:RQ):List (Nat × Ob):=[(12,.row [.b (.z 16 0),.b (.z 1 0),.b (.z 2 0),.b (.z 18 0),.b (.z 21 0),.b (.z 5 0),.b (.z 6 0),.b (.z 23 0),.b (.z 26 0),.b (.z 9 0),.b (.z 10 0),.b (.z 28 0)] FRT 3 4),(16,(ratT (f.c/Rat.divInt (-2) 1)).ob),(18,(ratT (f.a/Rat.divInt (-2) 1)).ob),(21,(ratT (g.c/Rat.divInt (-2) 1)).ob),(23,(ratT (g.a/Rat.divInt (-2) 1)).ob),(26,(ratT (h.c/Rat.divInt (-2) 1)).ob),(28,(ratT (h.a/Rat.divInt (-2) 1)).ob),(29,(ratT (acQ f g h).a).ob),(30,(ratT (acQ f g h).b.re).ob),(31,(ratT (acQ f g h).b.im).ob),(32,(ratT (acQ f g h).c).ob)]
abbrev acB (f g h:RQ):List Ob:=(fm12 f g h).map Thing.ob++[rw12 0]
section
variable {f g h:RQ} (hf:MayC f) (hg:MayC g) (hk:MayC h)
noncomputable def acqE {f:RQ} (hf:MayC f):List (Ev Tryz.prog):=[(sMtNum (-2)).e,(sMtQuo (hf.s1024.c.mono (by decide)) (two_sz.mono (by decide)) m2_ne).e,(sMtNum (-2)).e,(sMtQuo (hf.s1024.a.mono (by decide)) (two_sz.mono (by decide)) m2_ne).e]
noncomputable def acE:List (Ev Tryz.prog):=acqE hf++acqE hg++acqE hk++[(sMinors (up_sz hf) (up_sz hg) (up_sz hk)).e]
theorem ac_eqs (β:Env):(allM Tryz.prog 12 Tryz.f273 [.one (.c (.b (.r 12 3)))] (acB f g h) (acE hf hg hk) [(4,16)] 2000 (.tup [rgC 29,.c (.b (.v (.bool true)))]) (acO f g h) β).map Prod.fst=(allM Tryz.prog 12 Tryz.f273 [.one (.c (.b (.r 12 3)))] (acB f g h) (acE hf hg hk) [(4,16)] 2000 (.tup [rgC 29,.c (.b (.v (.bool true)))]) (acO f g h) β).map Prod.snd:=by kernel_rfl
abbrev acN (f g h:RQ):List Thing:=[ratT (f.c/Rat.divInt (-2) 1),ratT (f.a/Rat.divInt (-2) 1),ratT (g.c/Rat.divInt (-2) 1),ratT (g.a/Rat.divInt (-2) 1),ratT (h.c/Rat.divInt (-2) 1),ratT (h.a/Rat.divInt (-2) 1),ratT (acQ f g h).a,ratT (acQ f g h).b.re,ratT (acQ f g h).b.im,ratT (acQ f g h).c]
abbrev acb:Ob:=.row [.b (.z 13 0),.b (.z 1 0),.b (.z 2 0),.b (.z 14 0),.b (.z 15 0),.b (.z 5 0),.b (.z 6 0),.b (.z 16 0),.b (.z 17 0),.b (.z 9 0),.b (.z 10 0),.b (.z 18 0)] FRT 3 4
include hf hg hk in
theorem ac_ok (β:Env) (w:World) (hh:∀ (k:Nat) (t:Thing),(fm12 f g h)[k]?=some t→t.D w (β k)) (ha:(rw12 0).holds β w (β 12)) :
  Calls Tryz.prog 273 (([.one (.c (.b (.r 12 3)))]:List SV).map (SV.den β)).toArray w fun e u=>∃ xs:List Pl,freshS β w 12 xs∧e=.returned ((SV.tup [rgC 19,.c (.b (.v (.bool true)))]).den (extE β 13 xs))∧newHold u (acN f g h) xs∧acb.holds (extE β 13 xs) u (β 12)∧TouchL w u [(β 12).b]:=by
 have hobs:∀ (k:Nat) (o:Ob),(acB f g h)[k]?=some o→o.holds β w (β k):=fun k o ho=>by
  match k,ho with
  | 0,ho=>obtain rfl:=Option.some.inj ho; exact hh 0 _ rfl
  | 1,ho=>obtain rfl:=Option.some.inj ho; exact hh 1 _ rfl
  | 2,ho=>obtain rfl:=Option.some.inj ho; exact hh 2 _ rfl
  | 3,ho=>obtain rfl:=Option.some.inj ho; exact hh 3 _ rfl
  | 4,ho=>obtain rfl:=Option.some.inj ho; exact hh 4 _ rfl
  | 5,ho=>obtain rfl:=Option.some.inj ho; exact hh 5 _ rfl
  | 6,ho=>obtain rfl:=Option.some.inj ho; exact hh 6 _ rfl
  | 7,ho=>obtain rfl:=Option.some.inj ho; exact hh 7 _ rfl
  | 8,ho=>obtain rfl:=Option.some.inj ho; exact hh 8 _ rfl
  | 9,ho=>obtain rfl:=Option.some.inj ho; exact hh 9 _ rfl
  | 10,ho=>obtain rfl:=Option.some.inj ho; exact hh 10 _ rfl
  | 11,ho=>obtain rfl:=Option.some.inj ho; exact hh 11 _ rfl
  | 12,ho=>obtain rfl:=Option.some.inj ho; exact ha
  | k+13,ho=>cases ho
 obtain ⟨hone,cur,hcur,hcl,hn,hcm,hsz,htake⟩:=ha
 have hno:∀ j,j<12→¬ (β j).F (β 12).b:=fun j hj hF=>by
  obtain ⟨t,ht,x,rfl⟩:∃ t,(fm12 f g h)[j]?=some t∧∃ x,t=ratT x:=by
   match j,hj with
   | 0,_=>exact ⟨_,rfl,_,rfl⟩
   | 1,_=>exact ⟨_,rfl,_,rfl⟩
   | 2,_=>exact ⟨_,rfl,_,rfl⟩
   | 3,_=>exact ⟨_,rfl,_,rfl⟩
   | 4,_=>exact ⟨_,rfl,_,rfl⟩
   | 5,_=>exact ⟨_,rfl,_,rfl⟩
   | 6,_=>exact ⟨_,rfl,_,rfl⟩
   | 7,_=>exact ⟨_,rfl,_,rfl⟩
   | 8,_=>exact ⟨_,rfl,_,rfl⟩
   | 9,_=>exact ⟨_,rfl,_,rfl⟩
   | 10,_=>exact ⟨_,rfl,_,rfl⟩
   | 11,_=>exact ⟨_,rfl,_,rfl⟩
   | j+12,hj=>omega
  obtain ⟨b,hb,hx⟩:PR x w (β j):=hh j _ ht
  have ec:=(hb.2 _).1 hF
  rw [← ec] at hx
  exact ptr_row hcur (take_at htake rfl) hx
 refine (sxM (P:=Tryz.prog) 12 [.one (.c (.b (.r 12 3)))] (acB f g h) (acE hf hg hk) [(4,16)] 2000 (.tup [rgC 29,.c (.b (.v (.bool true)))]) (acO f g h) Tryz.func273 hmA (fun β=>ok_of_maps (ac_eqs hf hg hk β)) (by show 12≤13; decide) (by kernel_rfl) (by kernel_rfl) (fun k k1 k2=>?_) (fun k k1 k2=>?_) β w hobs (fun k j k1 k2 k3 k4=>?_)).mono ?_
 · obtain rfl:k=12:=by have:(acB f g h).length=13:=rfl; omega
   rfl
 · obtain rfl:k=12:=by have:(acB f g h).length=13:=rfl; omega
   exact ⟨_,_,List.mem_cons_self ..,rfl⟩
 · have hl:(acB f g h).length=13:=rfl
   obtain rfl:k=12:=by omega
   exact hno j (by omega)
 · rintro e u ⟨β',q,e1,rfl,e3,e4,e5,e6⟩
   have h12:β' 12=β 12:=e1 12 (by show 12<13; decide)
   obtain ⟨ho1,cur',hcur',k3,k4,k5,k6,k7⟩:=e5 _ (List.mem_cons_self ..)
   rw [h12] at ho1 hcur' k4 k5 k6
   have hfr:∀ p∈acO f g h,p.2.isTh=true→∀ c,(β' p.1).F c→w.heap.size≤c∨∃ i,i<12∧(β i).F c:=fun p hp hth c hc=>(e4 p hp hth c hc).imp And.left id
   have hth:∀ (k:Nat) (x:Rat),(k,(ratT x).ob)∈acO f g h→(ratT x).D u (β' k):=fun k x hk=>e5 _ hk
   have b0:β' 0=β 0:=e1 0 (by show 0<13; decide)
   have b1:β' 1=β 1:=e1 1 (by show 1<13; decide)
   have b2:β' 2=β 2:=e1 2 (by show 2<13; decide)
   have b3:β' 3=β 3:=e1 3 (by show 3<13; decide)
   have b4:β' 4=β 4:=e1 4 (by show 4<13; decide)
   have b5:β' 5=β 5:=e1 5 (by show 5<13; decide)
   have b6:β' 6=β 6:=e1 6 (by show 6<13; decide)
   have b7:β' 7=β 7:=e1 7 (by show 7<13; decide)
   have b8:β' 8=β 8:=e1 8 (by show 8<13; decide)
   have b9:β' 9=β 9:=e1 9 (by show 9<13; decide)
   have b10:β' 10=β 10:=e1 10 (by show 10<13; decide)
   have b11:β' 11=β 11:=e1 11 (by show 11<13; decide)
   refine ⟨[β' 16,β' 18,β' 21,β' 23,β' 26,β' 28,β' 29,β' 30,β' 31,β' 32],fun x hx=>?_,rfl,⟨hth 16 _ (by simp [acO]),hth 18 _ (by simp [acO]),hth 21 _ (by simp [acO]),hth 23 _ (by simp [acO]),hth 26 _ (by simp [acO]),hth 28 _ (by simp [acO]),hth 29 _ (by simp [acO]),hth 30 _ (by simp [acO]),hth 31 _ (by simp [acO]),hth 32 _ (by simp [acO]),trivial⟩,⟨ho1,cur',hcur',rfl,k4,k5,k6,k7.trans ?_⟩,⟨e6.os,e6.tape,e6.output,e6.size,fun k hkk hne=>e6.block k hkk fun hS=>?_⟩⟩
   · simp only [List.mem_cons,List.not_mem_nil,or_false] at hx
     rcases hx with rfl | rfl | rfl | rfl | rfl | rfl | rfl | rfl | rfl | rfl
     · exact hfr (16,(ratT (f.c/Rat.divInt (-2) 1)).ob) (by simp [acO]) rfl
     · exact hfr (18,(ratT (f.a/Rat.divInt (-2) 1)).ob) (by simp [acO]) rfl
     · exact hfr (21,(ratT (g.c/Rat.divInt (-2) 1)).ob) (by simp [acO]) rfl
     · exact hfr (23,(ratT (g.a/Rat.divInt (-2) 1)).ob) (by simp [acO]) rfl
     · exact hfr (26,(ratT (h.c/Rat.divInt (-2) 1)).ob) (by simp [acO]) rfl
     · exact hfr (28,(ratT (h.a/Rat.divInt (-2) 1)).ob) (by simp [acO]) rfl
     · exact hfr (29,(ratT ((acQ f g h).a)).ob) (by simp [acO]) rfl
     · exact hfr (30,(ratT ((acQ f g h).b.re)).ob) (by simp [acO]) rfl
     · exact hfr (31,(ratT ((acQ f g h).b.im)).ob) (by simp [acO]) rfl
     · exact hfr (32,(ratT ((acQ f g h).c)).ob) (by simp [acO]) rfl
   · show _=_
     simp only [List.map_cons,List.map_nil,Lf.den,Lf0.den,b0,b1,b2,b3,b4,b5,b6,b7,b8,b9,b10,b11]
     rfl
   · obtain ⟨i,i1,i2,rfl⟩:=hS
     have hl:(acB f g h).length=13:=rfl
     obtain rfl:i=12:=by omega
     exact hne (List.mem_singleton.2 rfl)
noncomputable def sAcr1:MSpec Tryz.prog :=
 ⟨273,Tryz.call273,[.one (.c (.b (.r 12 3)))],fm12 f g h,rw12 0,acb,.tup [rgC 19,.c (.b (.v (.bool true)))],acN f g h,ac_ok hf hg hk,by kernel_rfl⟩
def isTp:SV→Bool
 | .tup _=>true
 | _=>false
def mvTp (d t:Nat) (x:SV):Ev Tryz.prog:=.rd d (.move (.tmp t)) (fun β=>[x.den β]) [] 0 x [] (fun β w _ ρ op ho hx=>by
 refine ⟨[],w,(fun _ h=>by cases h),?_,trivial,Below.refl _ _⟩
 have h1:ρ (.tmp t)=x.den β:=by simpa [Op.operands] using hx
 rw [extE_nil,← h1]
 unfold execOp
 rw [ho]
 rfl)
def dMvT:Ev Tryz.prog:=.dyn (fun o xs _=>match o.op with
 | .move (.tmp _)=>isTp (xs.getD 0 undefS)
 | _=>false) fun o xs _=>match o.op with
 | .move (.tmp t)=>mvTp (o.dst.getD 0) t (xs.getD 0 undefS)
 | _=>.eqv 0 undef undef rfl
noncomputable def sMadeAc:CSpec Tryz.prog :=
 ⟨265,Tryz.call265,tl3A 273,oc3L f g h,CIT,mxA (acQ f g h),[],fun β w hh =>
  cspec0 [(sOpen3O hf hg hk).e,dMvT,(sAcr1 hf hg hk).e,(sMtCircle ((ac_sz hf hg hk).mono (by decide))).e] [] 800 Tryz.func265 hmA (fun β=>by kernel_rfl) (by kernel_rfl) (by kernel_rfl) β w hh,by kernel_rfl⟩
noncomputable def sMAcross:Spec Tryz.prog :=
 Spec.auto Tryz.call115 [frS f,frS g,frS h] [] (mxA (acQ f g h)) [] [(sMadeAc hf hg hk).e] [] 400 Tryz.func115 hmA (by kernel_rfl) (fun β=>by kernel_rfl)
end
theorem mvExt {r s:RQ} (h1:r.a=s.a) (h2:r.b.re=s.b.re) (h3:r.b.im=s.b.im) (h4:r.c=s.c):r=s:=by
 obtain ⟨a,⟨b,b'⟩,c⟩:=r
 obtain ⟨d,⟨e,e'⟩,f⟩:=s
 simp only at h1 h2 h3 h4
 subst h1 h2 h3 h4
 rfl
theorem m2v:(Rat.divInt (-2) 1:Rat) = -2:=of_decide_eq_true (by kernel_rfl:decide ((Rat.divInt (-2) 1:Rat) = -2)=true)
theorem mvMul0 {x y:Rat} (hy:y≠0):decide (x*y⁻¹=0)=decide (x=0):=by
 refine decide_eq_decide.2 ⟨fun h=>?_,fun h=>by rw [h,Rat.zero_mul]⟩
 rcases Rat.mul_eq_zero.1 h with h | h
 · exact h
 · exact absurd h (inv_ne hy)
theorem rnm_rnm (r:RQ) (y z:Rat):rnm (rnm r y) z=rnm r (y*z):=by
 unfold rnm gscale
 refine mvExt ?_ ?_ ?_ ?_<;>dsimp only<;>(rw [Rat.inv_mul_rev]; grind)
theorem rby_rnm {r:RQ} {y:Rat} (hy:y≠0):rby (rnm r y)=rby r*y⁻¹:=by
 unfold rby
 rw [show (rnm r y).a=r.a*y⁻¹ from rfl,show (rnm r y).b.re=r.b.re*y⁻¹ from rfl,mvMul0 hy,mvMul0 hy]
 unfold rbyQ
 cases decide (r.a=0)<;>cases decide (r.b.re=0)<;>rfl
theorem rone_rnm {r:RQ} {y:Rat} (hy:y≠0):rone (rnm r y)=rone r:=by
 unfold rone
 rw [rby_rnm hy,rnm_rnm]
 congr 1
 have:=Rat.mul_inv_cancel y hy
 grind
theorem fpr_rnm (f g:RQ) (y:Rat):fpr f (rnm g y)=fpr f g*y⁻¹:=by
 unfold fpr rnm gscale
 rw [Rat.div_def,Rat.div_def]
 grind
theorem fpr_comm (f g:RQ):fpr f g=fpr g f:=by
 unfold fpr
 rw [Rat.div_def,Rat.div_def]
 grind
theorem fpr_pls (f g h:RQ) (s t:Rat):fpr f (pls g h s t)=s*fpr f g+t*fpr f h:=by
 unfold fpr pls
 rw [Rat.div_def,Rat.div_def,Rat.div_def]
 grind
theorem ovb_mul {f g:RQ} (h0:fpr f f≠0):ovb f g*fpr f f = -2*fpr f g:=by
 unfold ovb
 rw [Rat.div_mul_cancel h0,m2v]
theorem ovQ_1 (f g:RQ):ovQ f g=pls g f 1 (ovb f g):=by unfold ovQ; rw [show one1=1 from div11v]
theorem val_pls (f g:RQ) (s t:Rat) (z:GQ):valQ (pls f g s t) z=s*valQ f z+t*valQ g z:=by
 unfold valQ pls gnorm gmul
 grind
theorem sgn_0 {x:Rat} (h:x=0):(!(x.num.sign==0))=false:=by rw [h]; rfl
theorem val_eq (f:RQ) (z:GQ):valQ f z=f.a*(z.re*z.re+z.im*z.im)+2*(f.b.re*z.re-f.b.im*z.im)+f.c:=by
 unfold valQ gnorm gmul
 grind
theorem lnV_mul {f g:RQ} (h0:lnD f g≠0) (x y:Rat):lnV f g x y*(lnD f g*2)=y*f.c-x*g.c:=by
 have h:lnD f g*i21≠0:=mul_ne h0 i21_ne
 unfold lnV
 rw [← i21v,Rat.div_mul_cancel h]
theorem ln_on {f g:RQ} (ha:f.a=0) (hb:g.a=0) (h0:lnD f g≠0):(sidQ f (.fin (lnZ f g))=0∧sidQ g (.fin (lnZ f g))=0)∧sidQ f .inf=0∧sidQ g .inf=0:=by
 have e1:=lnV_mul h0 f.b.im g.b.im
 have e2:=lnV_mul h0 f.b.re g.b.re
 have hz:(lnZ f g).re=lnV f g f.b.im g.b.im∧(lnZ f g).im=lnV f g f.b.re g.b.re:=by
  unfold lnZ
  rw [gint01]
  unfold gadd gmul rg
  constructor<;>(dsimp only; grind)
 refine ⟨⟨?_,?_⟩,ha,hb⟩
 · show valQ f (lnZ f g)=0
   rw [val_eq,hz.1,hz.2,ha]
   refine eq_of_mul h0 ?_
   generalize lnV f g f.b.im g.b.im=u at *
   generalize lnV f g f.b.re g.b.re=v at *
   unfold lnD at *
   grind
 · show valQ g (lnZ f g)=0
   rw [val_eq,hz.1,hz.2,hb]
   refine eq_of_mul h0 ?_
   generalize lnV f g f.b.im g.b.im=u at *
   generalize lnV f g f.b.re g.b.re=v at *
   unfold lnD at *
   grind
def ptCells (p:Pt):List Value:=(pw p).map fun l=>l.den idE
def rdPt (d t:Nat) (cs:List Cd) (o:Nat) (p:Pt) (hc:∀ j v,(ptCells p)[j]?=some v→cs[o+j]?=some (.v v)) (k n:Nat):Ev Tryz.prog :=
 .rd d (.load PTT (.tmp t)) (fun β=>[.pointer (some ⟨(β k).b,o,none⟩)]) [(k,(rowT PTT cs).ob)] 0 (svP p) [] (fun β w h ρ op ho hx'=>by
  have h1:RW PTT cs w (β k):=h (k,(rowT PTT cs).ob) (by simp)
  have h2:ρ (.tmp t)=.pointer (some ⟨(β k).b,o,none⟩):=by simpa [Op.operands] using hx'
  refine ⟨[],w,(fun _ h=>by cases h),?_,trivial,Below.refl _ _⟩
  have hr:w.rangeAt (β k).b o (ptCells p):=fun j v hv=>rw_cell h1 (hc j v hv)
  have hl:=run_loadAt_mid (P:=Tryz.prog) w (β k).b o PTT _ _ hr Tryz.underlying51 (by kernel_rfl) (by kernel_rfl)
  rw [extE_nil]
  unfold execOp
  rw [ho]
  simp only [h2]
  simp [hl,Result.andThen]
  rfl)
def isPt0 (p:Pt) (cs:List Cd) (o:Nat):Prop:=∀ j v,(ptCells p)[j]?=some v→cs[o+j]?=some (.v v)
theorem pt2_at0 (p q:Pt):isPt0 p (pt2 p q) 0:=fun j v h=>by
 match j,h with
 | 0,h=>exact congrArg (Option.map Cd.v) h
 | 1,h=>exact congrArg (Option.map Cd.v) h
 | 2,h=>exact congrArg (Option.map Cd.v) h
 | 3,h=>exact congrArg (Option.map Cd.v) h
 | 4,h=>exact congrArg (Option.map Cd.v) h
 | 5,h=>exact congrArg (Option.map Cd.v) h
 | 6,h=>exact congrArg (Option.map Cd.v) h
 | 7,h=>exact congrArg (Option.map Cd.v) h
 | 8,h=>exact congrArg (Option.map Cd.v) h
 | j+9,h=>cases h
def dPt0 (p q:Pt):Ev Tryz.prog:=.dyn (fun o xs ob=>match o.op with
 | .load T (.tmp _)=>Nat.beq T PTT&&isAd (xs.getD 0 undefS)&&(match ob[(adOf (xs.getD 0 undefS)).1]? with | some (.th _)=>true | _=>false)
 | _=>false) fun o xs ob=>match o.op with
 | .load _ (.tmp t)=>lit (adOf (xs.getD 0 undefS)).1 fun k=>rdPt (o.dst.getD 0) t (pt2 p q) 0 p (pt2_at0 p q) k 0
 | _=>.eqv 0 undef undef rfl
def rdIdxPt (d t:Nat) (cs:List Cd) (ix:Operand) (n j:Nat) (hj:Nat.blt j n=true) (k:Nat):Ev Tryz.prog :=
 .rd d (.indexAddr PSL (.tmp t) ix) (fun β=>[.slice ((β k).v cs.length) n ((β k).c cs.length),.int .i64 (j:Int)]) [(k,(rowT PTT cs).ob)] 0 (.one (.c (.b (.p k (j*9))))) [] (fun β w h ρ op ho hx'=>by
  have h1:RW PTT cs w (β k):=h (k,(rowT PTT cs).ob) (by simp)
  have h2:ρ (.tmp t)=.slice (some ⟨(β k).b,0,none⟩) n ((β k).c cs.length)∧ρ ix=.int .i64 (j:Int):=by
   rw [h1.2.1.2] at hx'
   simpa [Op.operands] using hx'
  rw [Nat.blt_eq] at hj
  refine ⟨[],w,(fun _ h=>by cases h),?_,trivial,Below.refl _ _⟩
  rw [extE_nil]
  unfold execOp
  rw [ho]
  simp only [h2.1,h2.2]
  have hi:=run_indexAt_slice (P:=Tryz.prog) w PSL ⟨(β k).b,0,none⟩ n ((β k).c cs.length) .i64 (j:Int) (by kernel_rfl)
  have hsz:(sizeOf (Tryz.prog.elem PSL)).run Tryz.prog w=.ok 9 w:=by kernel_rfl
  rw [if_pos ⟨by omega,by omega⟩,hsz,Result.andThen_ok,Int.toNat_natCast] at hi
  have ha:(⟨(β k).b,0,none⟩:Addr).add (j*9)=⟨(β k).b,j*9,none⟩:=by
   simp [Addr.add]
   exact fun h=>h.symm
  rw [ha] at hi
  simp only [Sem.run_bind,hi,Result.andThen_ok]
  rfl)
def dIdxPt (cs:List Cd):Ev Tryz.prog:=.dyn (fun o xs ob=>match o.op with
 | .indexAddr _ (.tmp _) _=>isY (xs.getD 0 undefS)
 | _=>false) fun o xs ob=>match o.op with
 | .indexAddr _ (.tmp t) ix=>lit (yOf (xs.getD 0 undefS)).1 fun k=>lit (yOf (xs.getD 0 undefS)).2 fun n=>lit (intS (xs.getD 1 undefS)) fun j=>if h:Nat.blt j n=true then rdIdxPt (o.dst.getD 0) t cs ix n j h k else .eqv 0 undef undef rfl
 | _=>.eqv 0 undef undef rfl
abbrev cq (x y z:Int):RQ:=⟨Rat.divInt 1 1,gint x y,Rat.divInt z 1⟩
theorem cq_may {x y z:Int} (hx:x.natAbs<256) (hy:y.natAbs<256) (hz:z.natAbs<256) (hp:decide ((rpow (cq x y z)).num.sign≤0)=false) (h1:decide ((rone (cq x y z)).a=(cq x y z).a)=true) (h2:decide ((rone (cq x y z)).b.re=(cq x y z).b.re)=true) (h3:decide ((rone (cq x y z)).b.im=(cq x y z).b.im)=true) (h4:decide ((rone (cq x y z)).c=(cq x y z).c)=true):MayC (cq x y z) :=
 ⟨⟨sz_lit1 (by decide),fit_int hx hy,sz_lit1 hz⟩,hp,rq_lit h1 h2 h3 h4⟩
theorem wt_eq {r s:RQ} (hp:decide ((rpow r).num.sign≤0)=false) (e:rone r=s):wtA r=.tup [.a (cC s),nI' 0]:=by
 rw [wtA,(wt_yes hp).1,(wt_yes hp).2,e]
theorem mx_eq {r s:RQ} (hp:wtB r=false) (e:rone r=s) (h:FitC s):mxA r=.tup [.a (cC s),nI' 0]:=by
 rw [mxA,(mx_yes hp).1,(mx_yes hp).2,e,(ci_fit h).1,(ci_fit h).2]
theorem may00:MayC (cq 0 0 (-1)):=cq_may (by decide) (by decide) (by decide) (by kernel_rfl) (by kernel_rfl) (by kernel_rfl) (by kernel_rfl) (by kernel_rfl)
theorem may10:MayC (cq (-1) 0 0):=cq_may (by decide) (by decide) (by decide) (by kernel_rfl) (by kernel_rfl) (by kernel_rfl) (by kernel_rfl) (by kernel_rfl)
theorem may20:MayC (cq (-2) 0 3):=cq_may (by decide) (by decide) (by decide) (by kernel_rfl) (by kernel_rfl) (by kernel_rfl) (by kernel_rfl) (by kernel_rfl)
theorem may025:MayC (cq 0 0 (-25)):=cq_may (by decide) (by decide) (by decide) (by kernel_rfl) (by kernel_rfl) (by kernel_rfl) (by kernel_rfl) (by kernel_rfl)
theorem may6:MayC (cq (-6) 0 11):=cq_may (by decide) (by decide) (by decide) (by kernel_rfl) (by kernel_rfl) (by kernel_rfl) (by kernel_rfl) (by kernel_rfl)
theorem may40:MayC (cq (-4) 0 15):=cq_may (by decide) (by decide) (by decide) (by kernel_rfl) (by kernel_rfl) (by kernel_rfl) (by kernel_rfl) (by kernel_rfl)
theorem may04:MayC (cq 0 4 15):=cq_may (by decide) (by decide) (by decide) (by kernel_rfl) (by kernel_rfl) (by kernel_rfl) (by kernel_rfl) (by kernel_rfl)
theorem may22:MayC (cq (-2) 2 1):=cq_may (by decide) (by decide) (by decide) (by kernel_rfl) (by kernel_rfl) (by kernel_rfl) (by kernel_rfl) (by kernel_rfl)
noncomputable def sRnd (n m s x y z:Int) (hn:n.natAbs<256) (hm:m.natAbs<256) (hs:s.natAbs<256) (hp:decide ((rpow (roundQ (gint n m) (Rat.divInt s 1))).num.sign≤0)=false) (e:rone (roundQ (gint n m) (Rat.divInt s 1))=cq x y z):Spec Tryz.prog :=
 Spec.auto Tryz.call245 [.one (svI n),.one (svI m),.one (svI s)] [] (.one (.a (cC (cq x y z)))) []
  [(sR4Int n m (by omega) (by omega)).e,(sR3Int s (by omega)).e,((sCRRound (fit_int hn hm) (sz_lit1 hs)).conv (.tup [.a (cC (cq x y z)),nI' 0]) (wt_eq hp e)).e] [] 400 Tryz.func245 hmA (by kernel_rfl) (fun β=>by kernel_rfl)
noncomputable def k001:Spec Tryz.prog:=sRnd 0 0 1 0 0 (-1) (by decide) (by decide) (by decide) (by kernel_rfl) (rq_lit (by kernel_rfl) (by kernel_rfl) (by kernel_rfl) (by kernel_rfl))
noncomputable def k101:Spec Tryz.prog:=sRnd 1 0 1 (-1) 0 0 (by decide) (by decide) (by decide) (by kernel_rfl) (rq_lit (by kernel_rfl) (by kernel_rfl) (by kernel_rfl) (by kernel_rfl))
noncomputable def k201:Spec Tryz.prog:=sRnd 2 0 1 (-2) 0 3 (by decide) (by decide) (by decide) (by kernel_rfl) (rq_lit (by kernel_rfl) (by kernel_rfl) (by kernel_rfl) (by kernel_rfl))
noncomputable def k0025:Spec Tryz.prog:=sRnd 0 0 25 0 0 (-25) (by decide) (by decide) (by decide) (by kernel_rfl) (rq_lit (by kernel_rfl) (by kernel_rfl) (by kernel_rfl) (by kernel_rfl))
noncomputable def k6025:Spec Tryz.prog:=sRnd 6 0 25 (-6) 0 11 (by decide) (by decide) (by decide) (by kernel_rfl) (rq_lit (by kernel_rfl) (by kernel_rfl) (by kernel_rfl) (by kernel_rfl))
noncomputable def k401:Spec Tryz.prog:=sRnd 4 0 1 (-4) 0 15 (by decide) (by decide) (by decide) (by kernel_rfl) (rq_lit (by kernel_rfl) (by kernel_rfl) (by kernel_rfl) (by kernel_rfl))
noncomputable def k041:Spec Tryz.prog:=sRnd 0 4 1 0 4 15 (by decide) (by decide) (by decide) (by kernel_rfl) (rq_lit (by kernel_rfl) (by kernel_rfl) (by kernel_rfl) (by kernel_rfl))
noncomputable def k227:Spec Tryz.prog:=sRnd 2 2 7 (-2) 2 1 (by decide) (by decide) (by decide) (by kernel_rfl) (rq_lit (by kernel_rfl) (by kernel_rfl) (by kernel_rfl) (by kernel_rfl))
theorem fq_eq {x y:Rat} (e:decide (x=y)=true) (h:Fit y):SV.tup [.a (fA x),nI' (ansK x)]=.tup [.a (fC y),nI' 0]:=by
 rw [of_decide_eq_true e,(fA_fit h).1,(fA_fit h).2]
theorem fit14:Fit (Rat.divInt 1 4):=(sz_divInt (by decide) (sz_small (by decide)) (sz_small (by decide)):Sz 1 (Rat.divInt 1 4)).fit (by decide)
noncomputable def kSquare:Spec Tryz.prog:=(sMSq may00 may10).conv (.tup [.a (fC (Rat.divInt 1 4)),nI' 0]) (fq_eq (by kernel_rfl) fit14)
noncomputable def kLies:Spec Tryz.prog:=(sMLies may00 may20 (s:=false) (by kernel_rfl) (c:=0) (by kernel_rfl)).conv (.tup [nI' 1,nI' 0]) (by kernel_rfl)
abbrev lnQ:RQ:=⟨Rat.divInt 0 1,gint 1 0,Rat.divInt (-2) 1⟩
theorem ln_fit:FitC lnQ:=⟨sz_lit1 (by decide),fit_int (by decide) (by decide),sz_lit1 (by decide)⟩
noncomputable def kAxis:Spec Tryz.prog:=(sMAxis may00 may20 (k:=.none) ⟨by kernel_rfl,by kernel_rfl⟩).conv (.tup [.a (cC lnQ),nI' 0]) (mx_eq (by kernel_rfl) (rq_lit (by kernel_rfl) (by kernel_rfl) (by kernel_rfl) (by kernel_rfl)) ln_fit)
noncomputable def kAcross:Spec Tryz.prog:=(sMAcross may00 may40 may04).conv (.tup [.a (cC (cq (-2) 2 1)),nI' 0]) (mx_eq (by kernel_rfl) (rq_lit (by kernel_rfl) (by kernel_rfl) (by kernel_rfl) (by kernel_rfl)) may22.fit)
theorem gq_lit {z w:GQ} (h1:decide (z.re=w.re)=true) (h2:decide (z.im=w.im)=true):z=w:=by
 obtain ⟨a,b⟩:=z
 obtain ⟨c,d⟩:=w
 obtain rfl:a=c:=of_decide_eq_true h1
 obtain rfl:b=d:=of_decide_eq_true h2
 rfl
theorem cq_sz {x y z:Int} (hx:x.natAbs<256) (hy:y.natAbs<256) (hz:z.natAbs<256):RSz KI (cq x y z):=⟨(Sz.small (by decide)).mono (by decide),⟨(Sz.small hx).mono (by decide),(Sz.small hy).mono (by decide)⟩,(Sz.small hz).mono (by decide)⟩
abbrev lq (x y z:Int):RQ:=⟨Rat.divInt 0 1,gint x y,Rat.divInt z 1⟩
theorem lq_sz {x y z:Int} (hx:x.natAbs<256) (hy:y.natAbs<256) (hz:z.natAbs<256):RSz KI (lq x y z):=⟨(Sz.small (by decide)).mono (by decide),⟨(Sz.small hx).mono (by decide),(Sz.small hy).mono (by decide)⟩,(Sz.small hz).mono (by decide)⟩
theorem pa_eq {p:Pt} (h:FitP p):SV.tup [.a (lsX (paC p)),.c (.b (.v (.int .i64 (paK p))))]=.tup [.a (pw p),nI' 0]:=by
 rw [paC_raw,(pa_fit h).1,(pa_fit h).2.1,(pa_fit h).2.2,paK_fit h]
noncomputable def kToldP {p:Pt} (h:FitP p):Spec Tryz.prog:=(sToldP p (h.sz.mono (by decide))).conv (.tup [.a (pw p),nI' 0]) (pa_eq h)
abbrev pA:Pt:=ptI 3 4
abbrev pB:Pt:=ptI 3 (-4)
theorem pA_fit:FitP pA:=ptI_fit (by decide) (by decide)
theorem pB_fit:FitP pB:=ptI_fit (by decide) (by decide)
theorem rt1:RootB (cuX (lq 6 0 (-36)) (cq 0 0 (-25))) 4 9 2 3:=⟨by kernel_rfl,by kernel_rfl,by decide,by decide,by decide,by decide,dig_big (k:=1) (by decide) (by decide),dig_big (k:=1) (by decide) (by decide),by decide,Nat.le_trans (sz_small (by decide)) (by decide),Nat.le_trans (sz_small (by decide)) (by decide)⟩
theorem rt2:RootB (cuX (lq 1 0 (-1)) (cq 0 0 (-1))) 3 4 1 2:=⟨by kernel_rfl,by kernel_rfl,by decide,by decide,by decide,by decide,dig_big (k:=1) (by decide) (by decide),dig_big (k:=1) (by decide) (by decide),by decide,Nat.le_trans (sz_small (by decide)) (by decide),Nat.le_trans (sz_small (by decide)) (by decide)⟩
abbrev plK:List Cd:=plC (gint 3 4)++plC (gint 3 (-4))
theorem one_ne0:(cq 0 0 0).a≠0:=of_decide_eq_true (by kernel_rfl:decide ((Rat.divInt 1 1:Rat)≠0)=true)
theorem cn1:cuN (lq 6 0 (-36))≠0:=of_decide_eq_true (by kernel_rfl:decide (cuN (lq 6 0 (-36))≠0)=true)
theorem cn2:cuN (lq 1 0 (-1))≠0:=of_decide_eq_true (by kernel_rfl:decide (cuN (lq 1 0 (-1))≠0)=true)
noncomputable def kCut:Spec Tryz.prog:=(sCutYes (l:=lq 6 0 (-36)) (k:=cq 0 0 (-25)) (lq_sz (by decide) (by decide) (by decide)) (cq_sz (by decide) (by decide) (by decide)) one_ne0 cn1 rt1 (by kernel_rfl)).newsAs [rowT PLT plK] (by
 have e1:gadd (cuF (lq 6 0 (-36)) (cq 0 0 (-25))) (cuB (lq 6 0 (-36)) (Rat.divInt (2:Nat) (3:Nat)))=gint 3 4:=gq_lit (by kernel_rfl) (by kernel_rfl)
 have e2:gsub (cuF (lq 6 0 (-36)) (cq 0 0 (-25))) (cuB (lq 6 0 (-36)) (Rat.divInt (2:Nat) (3:Nat)))=gint 3 (-4):=gq_lit (by kernel_rfl) (by kernel_rfl)
 show [rowT PLT (plC (gadd (cuF (lq 6 0 (-36)) (cq 0 0 (-25))) (cuB (lq 6 0 (-36)) (Rat.divInt (2:Nat) (3:Nat))))++plC (gsub (cuF (lq 6 0 (-36)) (cq 0 0 (-25))) (cuB (lq 6 0 (-36)) (Rat.divInt (2:Nat) (3:Nat)))))]=_
 rw [e1,e2])
noncomputable def kCutNo:Spec Tryz.prog:=sCutNo (l:=lq 1 0 (-1)) (k:=cq 0 0 (-1)) (lq_sz (by decide) (by decide) (by decide)) (cq_sz (by decide) (by decide) (by decide)) one_ne0 cn2 rt2 (by kernel_rfl)
theorem a1_ne:decide ((Rat.divInt 1 1:Rat)=0)=false:=by kernel_rfl
noncomputable def kAx1:Spec Tryz.prog:=(sAxNone may025 may6 a1_ne a1_ne (b:=false) (by kernel_rfl)).newsAs (rgT (lq 6 0 (-36))) (by
 have e:axQ (cq 0 0 (-25)) (cq (-6) 0 11)=lq 6 0 (-36):=rq_lit (by kernel_rfl) (by kernel_rfl) (by kernel_rfl) (by kernel_rfl)
 show rgT (axQ (cq 0 0 (-25)) (cq (-6) 0 11))=_
 rw [e])
noncomputable def kAx2:Spec Tryz.prog:=(sAxNone may00 may10 a1_ne a1_ne (b:=false) (by kernel_rfl)).newsAs (rgT (lq 1 0 (-1))) (by
 have e:axQ (cq 0 0 (-1)) (cq (-1) 0 0)=lq 1 0 (-1):=rq_lit (by kernel_rfl) (by kernel_rfl) (by kernel_rfl) (by kernel_rfl)
 show rgT (axQ (cq 0 0 (-1)) (cq (-1) 0 0))=_
 rw [e])
noncomputable def kLs1:Spec Tryz.prog:=(sMLies may025 may6 (s:=false) (by kernel_rfl) (c:=-1) (by kernel_rfl)).conv (.tup [nI' 2,nI' 0]) (by kernel_rfl)
noncomputable def kLs2:Spec Tryz.prog:=(sMLies may00 may10 (s:=false) (by kernel_rfl) (c:=-1) (by kernel_rfl)).conv (.tup [nI' 2,nI' 0]) (by kernel_rfl)
noncomputable def kSort:RNew Tryz.prog:=sSortP (p:=pA) (q:=pB) pA_fit pB_fit (by kernel_rfl) (by kernel_rfl)
noncomputable def kPts1:Spec Tryz.prog :=
 Spec.auto Tryz.call105 [frS (cq 0 0 (-25)),frS (cq (-6) 0 11)] [] (.tup [.c (.b (.y 0 18 2)),nI' 0]) [rowT PTT (pt2 pB pA)]
  ([kLs1.e,(sMtOf may025.fit).e,(sMtOf may6.fit).e]++sgR 69 a1_ne++[kAx1.e]++sgR 37 a1_ne++[kCut.e,dIdxP PLT plK,dPlace PLT plK,(kToldP pA_fit).e,.app appPt,dIdxP PLT plK,dPlace PLT plK,(kToldP pB_fit).e,.app appPt,kSort.e]) [(2,6)] 1500 Tryz.func105 hmA (by kernel_rfl) (fun β=>by kernel_rfl)
noncomputable def kPts2:Spec Tryz.prog :=
 Spec.auto Tryz.call105 [frS (cq 0 0 (-1)),frS (cq (-1) 0 0)] [] (.tup [.c (.b (.v (.slice none 0 0))),nI' 230]) []
  ([kLs2.e,(sMtOf may00.fit).e,(sMtOf may10.fit).e]++sgR 69 a1_ne++[kAx2.e]++sgR 37 a1_ne++[kCutNo.e]) [(2,6)] 1500 Tryz.func105 hmA (by kernel_rfl) (fun β=>by kernel_rfl)
def sNum13 (k:Int):Spec Tryz.prog:=Spec.auto Tryz.call110 [.one (nI' k)] [] (.one (nI' k)) [] [] [] 400 Tryz.func110 hmA (by kernel_rfl) (fun β=>by kernel_rfl)
def eqF14:Ev Tryz.prog:=eqEvF (fR (Rat.divInt 1 4)) (fR (Rat.divInt 1 4)) true (R4.eq_iff.2 rfl)
def eqQ (r:RQ):Ev Tryz.prog:=eqC1 (fR r.a) (fR r.b.re) (fR r.b.im) (fR r.c)
noncomputable def sKnown13:Spec Tryz.prog :=
 Spec.auto Tryz.call104 [] [] (tB' true) []
  [k001.e,k101.e,kSquare.e,k201.e,kLies.e,k0025.e,k6025.e,kPts1.e,k101.e,kPts2.e,k201.e,kAxis.e,k401.e,k041.e,kAcross.e,(sR3Int 0 (by decide)).e,(sR4Int 1 0).e,(sR3Int (-2) (by decide)).e,
   (sR3Small 1 4 (by decide) (by decide) (by decide) (Nat.le_trans (sz_small (by decide)) (by decide)) (Nat.le_trans (sz_small (by decide)) (by decide))).e,eqF14,(sNum13 0).e,(sNum13 0).e,dIdxPt (pt2 pB pA),dPt0 pB pA,(sR7Int 3 (-4)).e,eqEvPt (ptB_iff.2 rfl:ptB pB pB=true),(sNum13 0).e,(sNum13 230).e,eqQ lnQ,(sNum13 0).e,k227.e,eqQ (cq (-2) 2 1),(sNum13 0).e]
  [(2,2007009),(3,8),(5,8),(6,4007009),(7,5008010),(9,60)] 3000 Tryz.func104 hmA (by kernel_rfl) (fun β=>by kernel_rfl)
abbrev c4 (p:Cp):List Lf:=rL p.a++rL p.b++rL p.b'++rL p.c
def smC (p:Cp):Bool:=smB 60 p.a p.c&&smB 60 p.b p.b'
section
noncomputable def ckR:Cp→Ev Tryz.prog
 | .ok r h=>(sRCk h).e
 | .no _ _ _ _ h=>(sRCkNo h).e
abbrev my3A:List SV:=[.one (.c (.b (.s 0 0 3 3)))]
theorem my3_ok (p q r:Cp) {b:Bool} (hb:(p.B&&(q.B&&r.B))=b) (β:Env) (w:World) (hh:(Ob.box (c4 p++c4 q++c4 r) CIT).holds β w (β 0)) :
  Calls Tryz.prog 106 (my3A.map (SV.den β)).toArray w fun e w'=>e=.returned (.bool b)∧Below w.heap.size w w':=by
 subst hb
 cases p with
 | no a b b' c hp=>exact bspec_ok [ckR (.no a b b' c hp)] [] 800 Tryz.func106 hmA (fun β=>by kernel_rfl) (by kernel_rfl) (fun β=>rfl) β w hh
 | ok s hs=>cases q with
  | no a b b' c hp=>exact bspec_ok [ckR (.ok s hs),ckR (.no a b b' c hp)] [] 800 Tryz.func106 hmA (fun β=>by kernel_rfl) (by kernel_rfl) (fun β=>rfl) β w hh
  | ok t ht=>cases r with
   | no a b b' c hp=>exact bspec_ok [ckR (.ok s hs),ckR (.ok t ht),ckR (.no a b b' c hp)] [] 800 Tryz.func106 hmA (fun β=>by kernel_rfl) (by kernel_rfl) (fun β=>rfl) β w hh
   | ok u hu=>exact bspec_ok [ckR (.ok s hs),ckR (.ok t ht),ckR (.ok u hu)] [] 800 Tryz.func106 hmA (fun β=>by kernel_rfl) (by kernel_rfl) (fun β=>rfl) β w hh
noncomputable def sMayThree (p q r:Cp) {b:Bool} (hb:(p.B&&(q.B&&r.B))=b):BSpec Tryz.prog :=
 ⟨106,Tryz.call106,my3A,c4 p++c4 q++c4 r,CIT,.bool b,my3_ok p q r hb,by kernel_rfl,fun _=>rfl⟩
end
end Go.Proofs.YtpccljaooghafaaGreat.Y
end
