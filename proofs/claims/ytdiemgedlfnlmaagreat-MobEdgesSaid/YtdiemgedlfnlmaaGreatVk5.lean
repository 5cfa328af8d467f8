/- SyS, SyC, SyR, SyF. -/
import Derived.RangeFuncKeeps
import Derived.OrdersIn
import Derived.TacticsIn
import Derived.RangeFuncWrites
import Derived.RangeFuncLeaves
import Derived.Test.YtdiemgedlfnlmaaGreatVk4
set_option linter.unnecessarySimpa false
set_option linter.unusedVariables false
set_option linter.unusedSimpArgs false
section
namespace Go.Proofs.YtdiemgedlfnlmaaGreat.Y
open Go Go.RowKit
def Lf0.ren (ρ:Nat→Nat):Lf0→Lf0
 | .v x=>.v x
 | .p k o=>.p (ρ k) o
 | .s k o n c=>.s (ρ k) o n c
 | .z k i=>.z (ρ k) i
 | .y k i n=>.y (ρ k) i n
 | .r k n=>.r (ρ k) n
 | .gh k i=>.gh (ρ k) i
def Lf.ren (ρ:Nat→Nat):Lf→Lf
 | .b l=>.b (l.ren ρ)
 | .f fn x y=>.f fn (x.map (Lf0.ren ρ)) (y.map (Lf0.ren ρ))
def SC.ren (ρ:Nat→Nat):SC→SC
 | .c l=>.c (l.ren ρ)
 | .a ls=>.a (ls.map (Lf.ren ρ))
def SV.ren (ρ:Nat→Nat):SV→SV
 | .one x=>.one (x.ren ρ)
 | .tup xs=>.tup (xs.map (SC.ren ρ))
theorem Lf0.den_ren (β:Env) (ρ:Nat→Nat) (x:Lf0):(x.ren ρ).den β=x.den (fun k=>β (ρ k)):=by cases x<;>rfl
theorem Lf.den_ren (β:Env) (ρ:Nat→Nat) (x:Lf):(x.ren ρ).den β=x.den (fun k=>β (ρ k)):=by
 cases x with
 | b l=>exact Lf0.den_ren β ρ l
 | f fn x y=>simp only [Lf.ren,Lf.den,List.map_map,Function.comp_def,Lf0.den_ren]
theorem SC.den_ren (β:Env) (ρ:Nat→Nat) (x:SC):(x.ren ρ).den β=x.den (fun k=>β (ρ k)):=by
 cases x with
 | c l=>exact Lf.den_ren β ρ l
 | a ls=>simp only [SC.ren,SC.den,List.map_map,Function.comp_def,Lf.den_ren]
theorem SV.den_ren (β:Env) (ρ:Nat→Nat) (x:SV):(x.ren ρ).den β=x.den (fun k=>β (ρ k)):=by
 cases x with
 | one y=>exact SC.den_ren β ρ y
 | tup xs=>simp only [SV.ren,SV.den,List.map_map,Function.comp_def,SC.den_ren]
theorem all_both {α:Type} {f g h:α→Bool} {l:List α} (hf:l.all f=true) (hg:l.all g=true) (hh:∀ x,f x=true→g x=true→h x=true):l.all h=true :=
 List.all_eq_true.2 fun x hx=>hh x (List.all_eq_true.1 hf x hx) (List.all_eq_true.1 hg x hx)
theorem Lf0.of_and {q q':Nat→Bool}:∀ x:Lf0,x.of q=true→x.of q'=true→x.of (fun k=>q k&&q' k)=true
 | .v _,_,_=>rfl
 | .p _ _,h,k=>Bool.and_eq_true_iff.2 ⟨h,k⟩
 | .s _ _ _ _,h,k=>Bool.and_eq_true_iff.2 ⟨h,k⟩
 | .z _ _,h,k=>Bool.and_eq_true_iff.2 ⟨h,k⟩
 | .y _ _ _,h,k=>Bool.and_eq_true_iff.2 ⟨h,k⟩
 | .r _ _,h,k=>Bool.and_eq_true_iff.2 ⟨h,k⟩
 | .gh _ _,h,k=>Bool.and_eq_true_iff.2 ⟨h,k⟩
theorem Lf.of_and {q q':Nat→Bool}:∀ x:Lf,x.of q=true→x.of q'=true→x.of (fun k=>q k&&q' k)=true
 | .b l,h,k=>Lf0.of_and l h k
 | .f _ x y,h,k=>by
  unfold Lf.of at h k ⊢
  rw [Bool.and_eq_true] at h k ⊢
  exact ⟨all_both h.1 k.1 Lf0.of_and,all_both h.2 k.2 Lf0.of_and⟩
theorem SC.of_and {q q':Nat→Bool}:∀ x:SC,x.of q=true→x.of q'=true→x.of (fun k=>q k&&q' k)=true
 | .c l,h,k=>Lf.of_and l h k
 | .a _,h,k=>all_both h k Lf.of_and
theorem SV.of_and {q q':Nat→Bool}:∀ x:SV,x.of q=true→x.of q'=true→x.of (fun k=>q k&&q' k)=true
 | .one x,h,k=>SC.of_and x h k
 | .tup _,h,k=>all_both h k SC.of_and
def freshS (β:Env) (w:World) (m:Nat) (xs:List Pl):Prop:=∀ x∈xs,∀ c,x.F c→w.heap.size≤c∨∃ i,i<m∧(β i).F c
structure Spec (P:Program) where
 f:FuncId
 en:Enters P f
 args:List SV
 obs:List Thing
 res:SV
 news:List Thing
 ok:∀ β w,(∀ (k:Nat) (t:Thing),obs[k]?=some t→t.D w (β k))→Calls P f (args.map (SV.den β)).toArray w fun e w'=>∃ xs:List Pl,freshS β w obs.length xs∧e=.returned (res.den (extE β obs.length xs))∧newHold w' news xs∧Below w.heap.size w w'
 closed:(args.all (SV.of fun k=>Nat.blt k obs.length)&&res.of fun k=>Nat.blt k (obs.length+news.length))=true
def atS (σ:List Nat) (m n k:Nat):Nat:=lit (bif Nat.blt k m then σ.getD k 0 else n+(k-m)) fun j=>j
def atN (β:Env) (j:Nat):Pl:=bif Nat.beq j 2000000 then nilPl else β j
def needsOf (σ:List Nat):List Thing→Nat→List (Nat × Ob)
 | [],_=>[]
 | t::r,k=>lit (σ.getD k 0) fun j=>bif Nat.beq j 2000000 then needsOf σ r (k+1) else (j,t.ob)::needsOf σ r (k+1)
def okS (σ:List Nat) (n:Nat):List Thing→Nat→Bool
 | [],_=>true
 | t::r,k=>(bif Nat.beq (σ.getD k 0) 2000000 then t.nl else Nat.blt (σ.getD k 0) n)&&okS σ n r (k+1)
theorem needsOf_hold {β:Env} {w:World} {σ:List Nat} {n:Nat}:∀ {l:List Thing} {i:Nat},holdsAll β w (needsOf σ l i)→okS σ n l i=true→∀ (k:Nat) (t:Thing),l[k]?=some t→t.D w (atN β (σ.getD (i+k) 0))
 | [],_,_,_,k,t,h=>by simp at h
 | x::r,i,h,ho,k,t,hk=>by
  unfold okS at ho
  rw [Bool.and_eq_true] at ho
  unfold needsOf at h
  rw [lit_eq] at h
  cases hb:Nat.beq (σ.getD i 0) 2000000 with
  | true =>
   rw [hb,cond_true] at h
   rw [hb,cond_true] at ho
   cases k with
   | zero =>
    simp only [List.getElem?_cons_zero] at hk
    obtain rfl:=Option.some.inj hk
    unfold atN
    rw [Nat.add_zero,hb,cond_true]
    exact x.nlok ho.1 w
   | succ k =>
    have:=needsOf_hold (l:=r) (i:=i+1) h ho.2 k t (by simpa using hk)
    rw [show i+(k+1)=i+1+k by omega]
    exact this
  | false =>
   rw [hb,cond_false] at h
   cases k with
   | zero =>
    simp only [List.getElem?_cons_zero] at hk
    obtain rfl:=Option.some.inj hk
    unfold atN
    rw [Nat.add_zero,hb,cond_false]
    exact h _ (List.mem_cons_self ..)
   | succ k =>
    have:=needsOf_hold (l:=r) (i:=i+1) (fun p hp=>h p (List.mem_cons_of_mem _ hp)) ho.2 k t (by simpa using hk)
    rw [show i+(k+1)=i+1+k by omega]
    exact this
theorem needsOf_mem {σ:List Nat}:∀ {l:List Thing} {k i:Nat},i<l.length→Nat.beq (σ.getD (k+i) 0) 2000000=false→∃ t:Thing,(σ.getD (k+i) 0,t.ob)∈needsOf σ l k
 | t::r,k,0,_,hb=>⟨t,by
  rw [Nat.add_zero] at hb
  unfold needsOf
  rw [lit_eq,hb,cond_false]
  exact List.mem_cons_self ..⟩
 | t::r,k,i+1,h,hb=>by
  obtain ⟨u,hu⟩:=needsOf_mem (σ:=σ) (l:=r) (k:=k+1) (i:=i) (by simpa using h) (by rw [← hb,show k+1+i=k+(i+1) by omega])
  refine ⟨u,?_⟩
  unfold needsOf
  rw [show k+(i+1)=k+1+i by omega,lit_eq]
  cases Nat.beq (σ.getD k 0) 2000000
  · exact List.mem_cons_of_mem _ hu
  · exact hu
theorem okS_at {σ:List Nat} {n:Nat}:∀ {l:List Thing} {k i:Nat},okS σ n l k=true→i<l.length→Nat.beq (σ.getD (k+i) 0) 2000000=false→σ.getD (k+i) 0<n
 | t::r,k,0,h,_,hb=>by
  unfold okS at h
  rw [Nat.add_zero] at hb ⊢
  rw [Bool.and_eq_true,hb,cond_false,Nat.blt_eq] at h
  exact h.1
 | t::r,k,i+1,h,hi,hb=>by
  unfold okS at h
  rw [Bool.and_eq_true] at h
  rw [show k+(i+1)=k+1+i by omega] at hb ⊢
  exact okS_at h.2 (by simpa using hi) hb
def Spec.ev {P:Program} (S:Spec P) (σ:List Nat) (n:Nat) (hσ:(okS σ n S.obs 0&&S.res.of fun k=>!(Nat.blt k S.obs.length&&Nat.beq (σ.getD k 0) 2000000))=true):Ev P :=
 .call S.f S.en (fun β=>(S.args.map (SV.den fun k=>atN β (atS σ S.obs.length n k))).toArray) (needsOf σ S.obs 0) n (S.res.ren (atS σ S.obs.length n)) S.news fun β w h=>by
  have hc:=S.closed
  rw [Bool.and_eq_true] at hc hσ
  have hat:∀ k,k<S.obs.length→atS σ S.obs.length n k=σ.getD k 0:=fun k hk=>by
   unfold atS
   rw [lit_eq,show Nat.blt k S.obs.length=true by rw [Nat.blt_eq]; exact hk,cond_true]
  have hat2:∀ k,¬ k<S.obs.length→atS σ S.obs.length n k=n+(k-S.obs.length):=fun k hk=>by
   unfold atS
   rw [lit_eq,show Nat.blt k S.obs.length=false by rw [Bool.eq_false_iff,ne_eq,Nat.blt_eq]; exact hk,cond_false]
  have hargs:S.args.map (SV.den fun k=>atN β (atS σ S.obs.length n k))=S.args.map (SV.den fun k=>atN β (σ.getD k 0)):=List.map_congr_left fun x hx=>SV.den_congr (fun k hk=>by rw [hat k (by simpa [Nat.blt_eq] using hk)]) _ (List.all_eq_true.1 hc.1 x hx)
  rw [hargs]
  refine (S.ok (fun k=>atN β (σ.getD k 0)) w fun k t hk=>?_).mono ?_
  · have:=needsOf_hold h hσ.1 k t hk
    rwa [Nat.zero_add] at this
  · rintro e w' ⟨xs,h1,rfl,h3,h4⟩
    refine ⟨xs,fun x hx c hc=>?_,?_,h3,h4⟩
    · rcases h1 x hx c hc with h5 | ⟨i,i1,i2⟩
      · exact .inl h5
      refine .inr ?_
      unfold atN at i2
      dsimp only at i2
      cases hb:Nat.beq (σ.getD i 0) 2000000 with
      | true =>
       rw [hb] at i2
       exact i2.elim
      | false =>
       rw [hb] at i2
       obtain ⟨t,ht⟩:=needsOf_mem (σ:=σ) (l:=S.obs) (k:=0) i1 (by rw [Nat.zero_add]; exact hb)
       rw [Nat.zero_add] at ht
       exact ⟨_,ht,rfl,i2⟩
    rw [SV.den_ren]
    congr 1
    have hboth:S.res.of (fun k=>Nat.blt k (S.obs.length+S.news.length)&&!(Nat.blt k S.obs.length&&Nat.beq (σ.getD k 0) 2000000))=true:=SV.of_and _ hc.2 hσ.2
    refine SV.den_congr (fun k hk=>?_) _ hboth
    have hlen:=(newHold_get h3).1
    rw [Bool.and_eq_true,Nat.blt_eq] at hk
    by_cases hk2:k<S.obs.length
    · have hb:Nat.beq (σ.getD k 0) 2000000=false:=by
       have:=hk.2
       rw [show Nat.blt k S.obs.length=true by rw [Nat.blt_eq]; exact hk2,Bool.true_and] at this
       cases h5:Nat.beq (σ.getD k 0) 2000000 with
       | false=>rfl
       | true=>rw [h5] at this; cases this
      have hlt:=okS_at (k:=0) hσ.1 hk2 (by rw [Nat.zero_add]; exact hb)
      rw [Nat.zero_add] at hlt
      rw [hat k hk2,extE_out (β:=β) (n:=n) (k:=σ.getD k 0) (xs:=xs) (by omega),extE_out (n:=S.obs.length) (k:=k) (xs:=xs) (by omega)]
      unfold atN
      rw [hb,cond_false]
    · rw [hat2 k hk2]
      have h5:k-S.obs.length<xs.length:=by omega
      rw [extE_in (List.getElem?_eq_getElem h5)]
      have:=extE_in (β:=fun k=>atN β (σ.getD k 0)) (n:=S.obs.length) (List.getElem?_eq_getElem h5)
      rw [show S.obs.length+(k-S.obs.length)=k by omega] at this
      exact this
def mt0:Lf0→Lf0→List (Nat × Nat)
 | .p k _,.p j _=>[(k,j)]
 | .s k _ _ _,.s j _ _ _=>[(k,j)]
 | .z k _,.z j _=>[(k,j)]
 | .y k _ _,.y j _ _=>[(k,j)]
 | .r k _,.r j _=>[(k,j)]
 | .z k _,.p j _=>[(k,j)]
 | .z k _,.v (.pointer none)=>[(k,2000000)]
 | _,_=>[]
def mtL0:List Lf0→List Lf0→List (Nat × Nat)
 | x::r,y::s=>mt0 x y++mtL0 r s
 | _,_=>[]
def mtL:Lf→Lf→List (Nat × Nat)
 | .b x,.b y=>mt0 x y
 | .f _ a b,.f _ c d=>mtL0 a c++mtL0 b d
 | _,_=>[]
def mtLs:List Lf→List Lf→List (Nat × Nat)
 | x::r,y::s=>mtL x y++mtLs r s
 | _,_=>[]
def mtC:SC→SC→List (Nat × Nat)
 | .c x,.c y=>mtL x y
 | .a x,.a y=>mtLs x y
 | _,_=>[]
def mtV:SV→SV→List (Nat × Nat)
 | .one x,.one y=>mtC x y
 | _,_=>[]
def mtVs:List SV→List SV→List (Nat × Nat)
 | x::r,y::s=>mtV x y++mtVs r s
 | _,_=>[]
def sigM (l:List (Nat × Nat)) (k:Nat):Nat:=match l with
 | []=>0
 | (i,j)::r=>bif Nat.beq i k then j else sigM r k
def sigL (l:List (Nat × Nat)) (k:Nat):Nat→List Nat
 | 0=>[]
 | m+1=>lit (sigM l k) (fun j=>j::sigL l (k+1) m)
def isCallB (o:Oper):Bool:=match o.op with
 | .call ⟨.value _,_,_⟩=>true
 | _=>false
def Spec.e {P:Program} (S:Spec P):Ev P:=.dyn (fun o _ _=>isCallB o) fun _ xs ob =>
 lit ob.length fun n=>if h:(okS (sigL (mtVs S.args xs) 0 S.obs.length) n S.obs 0&&S.res.of fun k=>!(Nat.blt k S.obs.length&&Nat.beq ((sigL (mtVs S.args xs) 0 S.obs.length).getD k 0) 2000000))=true then S.ev (sigL (mtVs S.args xs) 0 S.obs.length) n h else .eqv 0 undef undef rfl
def ptOf:SV→Nat
 | .one (.c (.b (.p k _)))=>k
 | .one (.c (.b (.z k _)))=>k
 | _=>0
def dyn1 {P:Program} (f:Nat→Nat→Ev P):Ev P:=.dyn (fun o _ _=>isCallB o) fun _ xs ob=>lit ob.length fun n=>lit (ptOf (xs.getD 0 undefS)) fun i=>f i n
def dyn2 {P:Program} (f:Nat→Nat→Nat→Ev P):Ev P:=.dyn (fun o _ _=>isCallB o) fun _ xs ob=>lit ob.length fun n=>lit (ptOf (xs.getD 0 undefS)) fun i=>lit (ptOf (xs.getD 1 undefS)) fun k=>f i n k
def dyn3 {P:Program} (f:Nat→Nat→Nat→Nat→Ev P):Ev P:=.dyn (fun o _ _=>isCallB o) fun _ xs ob=>lit ob.length fun n=>lit (ptOf (xs.getD 0 undefS)) fun i=>lit (ptOf (xs.getD 1 undefS)) fun k=>lit (ptOf (xs.getD 2 undefS)) fun j=>f i n k j
def dynMk {P:Program} (t:TypeId) (N:Nat):Ev P:=.dyn (fun o _ _=>match o.op with
 | .alloc t'=>Nat.beq t' t
 | _=>false) fun o _ _=>.mk (o.dst.getD 0) N
def backS (m:Nat) (idx:List Nat) (k:Nat):Nat:=lit (bif Nat.blt k m then k else idx.getD (k-m) 0) fun j=>j
def specS (P:Program) (fn:Func) (args:List SV) (obs:List Thing) (evs:List (Ev P)) (Ns:List (Nat × Nat)) (m:Nat) (res:SV) (news:List Thing) (idx:List Nat) (β:Env):Eqs :=
 allS P fn args (obs.map Thing.ob) evs Ns m (res.ren (backS obs.length idx)) (idx.zip (news.map Thing.ob)) β
theorem newHold_of {β:Env} {w:World}:∀ {idx:List Nat} {l:List Thing},idx.length=l.length→holdsAll β w (idx.zip (l.map Thing.ob))→newHold w l (idx.map β)
 | [],[],_,_=>trivial
 | [],_::_,h,_=>by simp at h
 | _::_,[],h,_=>by simp at h
 | i::r,t::l,h,k=>⟨k (i,t.ob) (by simp),newHold_of (by simpa using h) fun p hp=>k p (by simp only [List.map_cons,List.zip_cons_cons]; exact List.mem_cons_of_mem _ hp)⟩
def specB (args:List SV) (obs:List Thing) (res:SV) (news:List Thing) (idx:List Nat):Bool :=
 args.all (SV.of fun k=>Nat.blt k obs.length)&&(res.of fun k=>Nat.blt k (obs.length+news.length))&&Nat.beq idx.length news.length
theorem spec_ok {P:Program} {f:FuncId} {fn:Func} {args:List SV} {obs:List Thing} {evs:List (Ev P)} {Ns:List (Nat × Nat)} {m:Nat} {res:SV} {news:List Thing} {idx:List Nat} (hf:P.funcs[f]?=some fn) (hm:P.follows .mixedOrders=true)
  (h:∀ β,(specS P fn args obs evs Ns m res news idx β).map Prod.fst=(specS P fn args obs evs Ns m res news idx β).map Prod.snd) (hB:specB args obs res news idx=true) (β:Env) (w:World) (hh:∀ (k:Nat) (t:Thing),obs[k]?=some t→t.D w (β k)) :
  Calls P f (args.map (SV.den β)).toArray w fun e w'=>∃ xs:List Pl,freshS β w obs.length xs∧e=.returned (res.den (extE β obs.length xs))∧newHold w' news xs∧Below w.heap.size w w':=by
 simp only [specB,Bool.and_eq_true,Nat.beq_eq] at hB
 obtain ⟨⟨h1,h2⟩,h3⟩:=hB
 have hget:∀ (k:Nat) (o:Ob),(obs.map Thing.ob)[k]?=some o→∃ t,obs[k]?=some t∧o=t.ob:=fun k o ho=>by
  rw [List.getElem?_map] at ho
  cases hx:obs[k]? with
  | none=>rw [hx] at ho; cases ho
  | some t=>rw [hx] at ho; exact ⟨t,rfl,(Option.some.inj ho).symm⟩
 refine (sx (P:=P) args (obs.map Thing.ob) evs Ns m (res.ren (backS obs.length idx)) (idx.zip (news.map Thing.ob)) hf hm (fun β=>ok_of_maps (h β)) (by rw [List.length_map]; exact h1)
  (List.all_eq_true.2 fun x hx=>by obtain ⟨t,_,rfl⟩:=List.mem_map.1 hx; rfl) β w (fun k o ho=>?_)).mono ?_
 · obtain ⟨t,ht,rfl⟩:=hget k o ho
   exact hh k t ht
 · rintro e w' ⟨β',q,obj,e1,rfl,e2,e4,e5,g⟩
   rw [List.length_map] at e1
   have hz:(idx.zip (news.map Thing.ob)).map (fun p=>β' p.1)=idx.map β':=by
    rw [show (fun p:Nat × Ob=>β' p.1)=β' ∘ Prod.fst from rfl,← List.map_map,List.map_fst_zip (by rw [List.length_map]; omega)]
   refine ⟨idx.map β',fun x hx=>?_,?_,newHold_of h3 e5,g.bel⟩
   · rw [← hz] at hx
     obtain ⟨p,hp,rfl⟩:=List.mem_map.1 hx
     have:=e4 p hp
     rw [List.length_map] at this
     exact this
   · rw [SV.den_ren]
     congr 1
     refine SV.den_congr (fun k hk=>?_) _ h2
     rw [Nat.blt_eq] at hk
     unfold backS
     rw [lit_eq]
     by_cases hk2:k<obs.length
     · rw [show Nat.blt k obs.length=true by rw [Nat.blt_eq]; exact hk2,cond_true,extE_out (by omega)]
       exact e1 k hk2
     · rw [show Nat.blt k obs.length=false by rw [Bool.eq_false_iff,ne_eq,Nat.blt_eq]; exact hk2,cond_false]
       have h5:k-obs.length<idx.length:=by omega
       have:=extE_in (β:=β) (n:=obs.length) (xs:=idx.map β') (i:=k-obs.length) (x:=β' idx[k-obs.length]) (by simp [h5])
       rw [show obs.length+(k-obs.length)=k by omega] at this
       rw [this,List.getD_eq_getElem?_getD,List.getElem?_eq_getElem h5,Option.getD_some]
def mtCs:List SC→List SC→List (Nat × Nat)
 | x::r,y::s=>mtC x y++mtCs r s
 | _,_=>[]
def mtR:SV→SV→List (Nat × Nat)
 | .one x,.one y=>mtC x y
 | .tup xs,.tup ys=>mtCs xs ys
 | _,_=>[]
def lits {α:Type}:List Nat→(List Nat→α)→α
 | [],k=>k []
 | a::r,k=>lit a fun b=>lits r fun s=>k (b::s)
theorem lits_eq {α:Type}:∀ (l:List Nat) (k:List Nat→α),lits l k=k l
 | [],_=>rfl
 | a::r,k=>by unfold lits; rw [lit_eq,lits_eq r]
theorem sigL_len (l:List (Nat × Nat)):∀ (m k:Nat),(sigL l k m).length=m
 | 0,_=>rfl
 | m+1,k=>by unfold sigL; rw [lit_eq,List.length_cons,sigL_len l m]
def idxM (P:Program) (fn:Func) (args:List SV) (obs:List Thing) (evs:List (Ev P)) (Ns:List (Nat × Nat)) (m:Nat) (res:SV):List (Nat × Nat) :=
 match fn.body with
 | some c=>match fullS P fn args (obs.map Thing.ob) evs Ns m c with
  | some f=>match run1 P obs.length false (results fn (tmpsS idE f.sl (sizeS fn args))) f.q f.ob [] with
   | some ⟨v,_,_,_⟩=>mtR res (tag v)
   | none=>[]
  | none=>[]
 | none=>[]
def specA (P:Program) (fn:Func) (args:List SV) (obs:List Thing) (evs:List (Ev P)) (Ns:List (Nat × Nat)) (m:Nat) (res:SV) (news:List Thing) (β:Env):Eqs :=
 lits (sigL (idxM P fn args obs evs Ns m res) obs.length news.length) fun idx=>specS P fn args obs evs Ns m res news idx β
def specB2 (args:List SV) (obs:List Thing) (res:SV) (news:List Thing):Bool :=
 args.all (SV.of fun k=>Nat.blt k obs.length)&&res.of fun k=>Nat.blt k (obs.length+news.length)
theorem spec_auto {P:Program} {f:FuncId} {fn:Func} {args:List SV} {obs:List Thing} {evs:List (Ev P)} {Ns:List (Nat × Nat)} {m:Nat} {res:SV} {news:List Thing} (hf:P.funcs[f]?=some fn) (hm:P.follows .mixedOrders=true)
  (h:∀ β,(specA P fn args obs evs Ns m res news β).map Prod.fst=(specA P fn args obs evs Ns m res news β).map Prod.snd) (hB:specB2 args obs res news=true) (β:Env) (w:World) (hh:∀ (k:Nat) (t:Thing),obs[k]?=some t→t.D w (β k)) :
  Calls P f (args.map (SV.den β)).toArray w fun e w'=>∃ xs:List Pl,freshS β w obs.length xs∧e=.returned (res.den (extE β obs.length xs))∧newHold w' news xs∧Below w.heap.size w w' :=
 spec_ok (idx:=sigL (idxM P fn args obs evs Ns m res) obs.length news.length) hf hm (fun β=>by have:=h β; unfold specA at this; rwa [lits_eq] at this) (by
  unfold specB
  unfold specB2 at hB
  rw [hB,sigL_len,Bool.true_and]
  exact Nat.beq_refl _) β w hh
def Spec.auto {P:Program} {f:FuncId} {fn:Func} (en:Enters P f) (args:List SV) (obs:List Thing) (res:SV) (news:List Thing) (evs:List (Ev P)) (Ns:List (Nat × Nat)) (m:Nat) (hf:P.funcs[f]?=some fn) (hm:P.follows .mixedOrders=true)
  (hB:specB2 args obs res news=true) (h:∀ β,(specA P fn args obs evs Ns m res news β).map Prod.fst=(specA P fn args obs evs Ns m res news β).map Prod.snd):Spec P :=
 ⟨f,en,args,obs,res,news,spec_auto hf hm h hB,hB⟩
inductive Stop (P:Program) where
 | ended (f:Cf P)
 | head (c:Code) (ks:List Kf) (f:Cf P)
def Stop.cf {P:Program}:Stop P→Cf P
 | .ended f=>f
 | .head _ _ f=>f
def runP (P:Program) (m0 n:Nat) (Ns:List (Nat × Nat)):Nat→Option Code→List Kf→Cf P→Option (Stop P)
 | 0,_,_,_=>none
 | m+1,oc,ks,f=>match oc with
  | none=>match ks with
   | []=>some (.ended f)
   | .sq c::r=>runP P m0 n Ns m (some c) r f
   | .bl _::r=>runP P m0 n Ns m none r f
   | .lp c::r=>match f.ev with
    | .cut::ev'=>some (.head c r { f with ev:=ev' })
    | _=>runP P m0 n Ns m (some c) (.lp c::r) f
   | .sc::r=>runP P m0 n Ns m none r f
  | some c=>match c with
   | .skip=>runP P m0 n Ns m none ks f
   | .label _=>runP P m0 n Ns m none ks f
   | .region id ops d=>match (bif d then drawS1 P m0 n Ns id ops.toList f else seqS P m0 n ops ops.toList f) with
    | some f'=>runP P m0 n Ns m none ks f'
    | none=>none
   | .seq a b=>runP P m0 n Ns m (some a) (.sq b::ks) f
   | .cond x a b=>match evS idE f.sl x with
    | .bool true=>runP P m0 n Ns m (some a) ks { f with cs:=(fun β=>[(.v (evS β f.sl x),.v (.bool true))])::f.cs }
    | .bool false=>runP P m0 n Ns m (some b) ks { f with cs:=(fun β=>[(.v (evS β f.sl x),.v (.bool false))])::f.cs }
    | _=>none
   | .block id c=>runP P m0 n Ns m (some c) (.bl id::ks) f
   | .loop c=>match f.ev with
    | .cut::ev'=>some (.head c ks { f with ev:=ev' })
    | _=>runP P m0 n Ns m (some c) (.lp c::ks) f
   | .scope c=>runP P m0 n Ns m (some c) (.sc::ks) f
   | .exit id=>match popTo id ks with
    | some r=>runP P m0 n Ns m none r f
    | none=>none
   | .ret=>some (.ended f)
   | _=>none
def Stop.after {P:Program} (Q:Exit→Act→World→Prop) (a:Act) (w:World):Stop P→Prop
 | .ended _=>Q .normal a w∧Q .ret a w
 | .head c ks _=>Rounds P c (post P Q ks) a w
theorem Sync.ev {P:Program} {m0 n:Nat} {B0:Bd} {w0:World} {c:Cf P} {β:Env} {a:Act} {w:World} (h:Sync P m0 n B0 w0 c β a w) (x:List (Ev P)):Sync P m0 n B0 w0 { c with ev:=x } β a w:=⟨h.good,h.q,h.sl,h.of,h.m0,h.defers,h.uq⟩
theorem runP_ok {P:Program} {m0 n:Nat} {Ns:List (Nat × Nat)} (hm:P.follows .mixedOrders=true):∀ (m:Nat) (oc:Option Code) (ks:List Kf) (f:Cf P) (s:Stop P),runP P m0 n Ns m oc ks f=some s→f.full→(∀ x∈f.cs,x∈s.cf.cs)∧s.cf.full ∧
  (s.cf.good→∀ {B0:Bd} {w0:World} {β:Env} {a:Act} {w:World},Sync P m0 n B0 w0 f β a w→∀ (Q:Exit→Act→World→Prop),(∀ β' a' w',(∀ k,k<B0.k→β' k=β k)→Sync P m0 n B0 w0 s.cf β' a' w'→s.after Q a' w')→toShow P Q oc ks a w):=by
 intro m
 induction m with
 | zero=>intro oc ks f f' h; simp only [runP] at h; cases h
 | succ m ih =>
  intro oc ks f f' h hf
  simp only [runP] at h
  cases oc with
  | none =>
   dsimp only at h
   cases ks with
   | nil =>
    obtain rfl:=Option.some.inj h
    exact ⟨fun _ hx=>hx,hf,fun _ B0 w0 β a w s Q hQ=>(hQ β a w (fun _ _=>rfl) s).1⟩
   | cons x r =>
    cases x with
    | sq c=>obtain ⟨i1,i2,i3⟩:=ih _ _ _ _ h hf; exact ⟨i1,i2,fun hg B0 w0 β a w s Q hQ=>i3 hg s Q hQ⟩
    | bl j =>
     obtain ⟨i1,i2,i3⟩:=ih _ _ _ _ h hf
     exact ⟨i1,i2,fun hg B0 w0 β a w s Q hQ=>i3 hg s Q hQ⟩
    | lp c =>
     dsimp only at h
     split at h
     · obtain rfl:=Option.some.inj h
       exact ⟨fun _ hx=>hx,hf,fun _ B0 w0 β a w s Q hQ=>hQ β a w (fun _ _=>rfl) (s.ev _)⟩
     · obtain ⟨i1,i2,i3⟩:=ih _ _ _ _ h hf
       exact ⟨i1,i2,fun hg B0 w0 β a w s Q hQ=>rounds_one (i3 hg s Q hQ)⟩
    | sc=>obtain ⟨i1,i2,i3⟩:=ih _ _ _ _ h hf; exact ⟨i1,i2,fun hg B0 w0 β a w s Q hQ=>i3 hg s Q hQ⟩
  | some c =>
   cases c with
   | skip=>obtain ⟨i1,i2,i3⟩:=ih _ _ _ _ h hf; exact ⟨i1,i2,fun hg B0 w0 β a w s Q hQ=>wp_skip (i3 hg s Q hQ)⟩
   | label l=>obtain ⟨i1,i2,i3⟩:=ih _ _ _ _ h hf; exact ⟨i1,i2,fun hg B0 w0 β a w s Q hQ=>wp_label (i3 hg s Q hQ)⟩
   | region rid ops d =>
    dsimp only at h
    split at h
    · rename_i f1 h1
      cases d with
      | true =>
       simp only [cond_true] at h1
       have hf1:=drawS1_full h1 hf
       obtain ⟨i1,i2,i3⟩:=ih _ _ _ _ h hf1
       obtain ⟨j1,j2⟩:=drawS1_ok hm h1 (fun k hk=>(hf.1 k).1 hk) hf.2
       refine ⟨fun x hx=>i1 x (j1 x hx),i2,fun hg B0 w0 β a w s Q hQ=>?_⟩
       have:=j2 (fun β x hx=>hg β x (i1 x hx)) s (post P Q ks) fun β' a' w' e s'=>i3 hg s' Q fun β2 a2 w2 e2 s2=>hQ β2 a2 w2 (fun k hk=>(e2 k hk).trans (e k hk)) s2
       unfold RegAny at this
       simp only [Array.toArray_toList] at this
       exact wp_region_any hm this
      | false =>
       simp only [cond_false] at h1
       have hf1:=seqS_full h1 hf
       obtain ⟨i1,i2,i3⟩:=ih _ _ _ _ h hf1
       obtain ⟨j1,j2⟩:=seqS_ok h1
       exact ⟨fun x hx=>i1 x (j1 x hx),i2,fun hg B0 w0 β a w s Q hQ=>wp_region_list (j2 (fun β x hx=>hg β x (i1 x hx)) s (post P Q ks) fun β' a' w' e s'=>i3 hg s' Q fun β2 a2 w2 e2 s2=>hQ β2 a2 w2 (fun k hk=>(e2 k hk).trans (e k hk)) s2)⟩
    · cases h
   | seq c d=>obtain ⟨i1,i2,i3⟩:=ih _ _ _ _ h hf; exact ⟨i1,i2,fun hg B0 w0 β a w s Q hQ=>wp_seq (i3 hg s Q hQ)⟩
   | cond x c d =>
    dsimp only at h
    split at h
    · obtain ⟨i1,i2,i3⟩:=ih _ _ _ _ h hf
      refine ⟨fun y hy=>i1 y (List.mem_cons_of_mem _ hy),i2,fun hg B0 w0 β a w s Q hQ=>?_⟩
      obtain ⟨e,_⟩:=Eqs.cons_ok (hg β _ (i1 _ (List.mem_cons_self ..)))
      injection e with e
      exact wp_cond_true (by rw [s.sl.eval]; exact e) (i3 hg (s.cs _) Q hQ)
    · obtain ⟨i1,i2,i3⟩:=ih _ _ _ _ h hf
      refine ⟨fun y hy=>i1 y (List.mem_cons_of_mem _ hy),i2,fun hg B0 w0 β a w s Q hQ=>?_⟩
      obtain ⟨e,_⟩:=Eqs.cons_ok (hg β _ (i1 _ (List.mem_cons_self ..)))
      injection e with e
      exact wp_cond_false (by rw [s.sl.eval]; exact e) (i3 hg (s.cs _) Q hQ)
    · cases h
   | block j c=>obtain ⟨i1,i2,i3⟩:=ih _ _ _ _ h hf; exact ⟨i1,i2,fun hg B0 w0 β a w s Q hQ=>wp_block (i3 hg s Q hQ)⟩
   | loop c =>
    dsimp only at h
    split at h
    · obtain rfl:=Option.some.inj h
      exact ⟨fun _ hx=>hx,hf,fun _ B0 w0 β a w s Q hQ=>rounds_loop (hQ β a w (fun _ _=>rfl) (s.ev _))⟩
    · obtain ⟨i1,i2,i3⟩:=ih _ _ _ _ h hf
      exact ⟨i1,i2,fun hg B0 w0 β a w s Q hQ=>rounds_loop (rounds_one (i3 hg s Q hQ))⟩
   | rangeFunc _ _ _ _=>cases h
   | exit j =>
    dsimp only at h
    split at h
    · rename_i r hr
      obtain ⟨i1,i2,i3⟩:=ih _ _ _ _ h hf
      exact ⟨i1,i2,fun hg B0 w0 β a w s Q hQ=>wp_exit (post_exit hr (i3 hg s Q hQ))⟩
    · cases h
   | scope c=>obtain ⟨i1,i2,i3⟩:=ih _ _ _ _ h hf; exact ⟨i1,i2,fun hg B0 w0 β a w s Q hQ=>wp_scope_straight (i3 hg s Q hQ)⟩
   | goto _=>cases h
   | ret =>
    obtain rfl:=Option.some.inj h
    exact ⟨fun _ hx=>hx,hf,fun _ B0 w0 β a w s Q hQ=>wp_ret (post_ret (hQ β a w (fun _ _=>rfl) s).2 ks)⟩
   | refuse _=>cases h
def loopsOf:Nat→Code→List Kf→List (Code × List Kf)
 | 0,_,_=>[]
 | m+1,c,ks=>match c with
  | .seq a b=>loopsOf m a (.sq b::ks)++loopsOf m b ks
  | .cond _ a b=>loopsOf m a ks++loopsOf m b ks
  | .block id c=>loopsOf m c (.bl id::ks)
  | .loop c=>(c,ks)::loopsOf m c (.lp c::ks)
  | .scope c=>loopsOf m c (.sc::ks)
  | _=>[]
def lpAt (fn:Func) (i:Nat):Code × List Kf:=match fn.body with
 | some c=>(loopsOf 200 c []).getD i (.skip,[])
 | none=>(.skip,[])
def Stop.pos {P:Program}:Stop P→Option (Code × List Kf)
 | .ended _=>none
 | .head c ks _=>some (c,ks)
def mkC (P:Program) (n u:Nat) (sl:List (Nat × SV)) (ob:List Ob) (ev:List (Ev P)):Cf P :=
 ⟨sl++(List.range n).map fun t=>(t,.one (.c (.b (.gh u t)))),fun k=>Nat.blt k ob.length,ob,ev,[]⟩
def tEq1 (β:Env) (σ:List Nat):Env:=fun j=>β (σ.getD j 0)
def opaqB (u t:Nat):SV→Bool
 | .one (.c (.b (.gh k i)))=>Nat.beq k u&&Nat.beq i t
 | _=>false
def layB:Ob→Bool
 | .box _ _=>true
 | .row _ _ _ _=>true
 | .ow _ _=>true
 | _=>false
def deadB:Ob→Bool
 | .dead=>true
 | _=>false
def kindB:Ob→Ob→Bool
 | .th _,.th _=>true
 | .al _ _,.th _=>true
 | .box _ _,.box _ _=>true
 | .row _ _ _ _,.row _ _ _ _=>true
 | .ow _ _,.ow _ _=>true
 | .ow _ _,.th _=>true
 | _,.dead=>true
 | _,_=>false
def wkB (m0 u:Nat) (obS obT:List Ob) (σ:List Nat):Bool :=
 Nat.beq σ.length obT.length&&Nat.ble m0 u&&Nat.blt u obT.length&&(List.range m0).all (fun i=>Nat.beq (σ.getD i 0) i) &&
 (List.range obT.length).all fun j=>match obT[j]? with
  | none=>false
  | some x=>(bif Nat.beq j u then deadB x else match obS[σ.getD j 0]? with
    | none=>false
    | some y=>kindB y x&&x.of (fun k=>Nat.blt k obT.length&&!Nat.beq k u)) &&
   (bif layB x then (!Nat.ble m0 j||Nat.ble m0 (σ.getD j 0))&&(List.range obT.length).all (fun i=>Nat.beq i j||(Nat.beq i u||((match obT[i]? with | some y=>deadB y | none=>false)||!Nat.beq (σ.getD i 0) (σ.getD j 0)))) else true)
def wkOb (β:Env) (σ:List Nat):Ob→Ob→Eqs
 | .box cs t,.box cs' t'=>[(.n t,.n t'),(.v (.agg (cs.map (Lf.den β)).toArray),.v (.agg (cs'.map (Lf.den (tEq1 β σ))).toArray))]
 | .row cs t n sz,.row cs' t' n' sz'=>[(.n t,.n t'),(.n n,.n n'),(.n sz,.n sz'),(.v (.agg (cs.map (Lf.den β)).toArray),.v (.agg (cs'.map (Lf.den (tEq1 β σ))).toArray))]
 | .ow D t,.ow D' t'=>[(.ob (.ow D t),.ob (.ow D' t'))]
 | .ow D _,.th t'=>[(.ob (.th D),.ob (.th t'))]
 | y,.th t=>[(.ob (y.plain (.th t)),.ob (.th t))]
 | _,_=>[]
def wkObs (β:Env) (obS:List Ob) (σ:List Nat):List Ob→Nat→Eqs
 | [],_=>[]
 | x::r,j=>(match obS[σ.getD j 0]? with | some y=>wkOb β σ y x | none=>(match x with | .dead=>[] | _=>Eqs.no))++wkObs β obS σ r (j+1)
def wkSl (β:Env) (u L:Nat) (σ:List Nat) (slS slT:List (Nat × SV)):Nat→Eqs
 | 0=>[]
 | t+1=>(bif opaqB u t (look slT t) then [] else bif (look slT t).of (fun k=>Nat.blt k L&&!Nat.beq k u) then [(.v ((look slS t).den β),.v ((look slT t).den (tEq1 β σ)))] else Eqs.no)++wkSl β u L σ slS slT t
def pieceE (P:Program) (m0 n:Nat) (s:Option (Stop P)) (u:Nat) (sl:List (Nat × SV)) (ob:List Ob) (σ:List Nat) (β:Env):Eqs :=
 match s with
 | some (.head _ _ f)=>(bif wkB m0 u f.ob ob σ&&Nat.beq f.ev.length 0&&sl.all (fun p=>Nat.blt p.1 n) then [] else Eqs.no)++(wkObs β f.ob σ ob 0++(wkSl β u ob.length σ f.sl (mkC P n u sl ob []).sl n++eqsOf β f.cs))
 | _=>Eqs.no
def lastE (P:Program) (fn:Func) (m0 n:Nat) (res:SV) (outs:List (Nat × Ob)) (s:Option (Stop P)) (β:Env):Eqs :=
 match s with
 | some (.ended f)=>fin1 P fn m0 n res outs f β
 | _=>Eqs.no
theorem Eqs.left {a b:Eqs} (h:Eqs.ok (a++b)):Eqs.ok a:=fun p hp=>h p (List.mem_append.2 (.inl hp))
theorem Eqs.right {a b:Eqs} (h:Eqs.ok (a++b)):Eqs.ok b:=fun p hp=>h p (List.mem_append.2 (.inr hp))
theorem bif_ok {b:Bool} (h:Eqs.ok (bif b then [] else Eqs.no)):b=true:=by
 cases b
 · exact (Eqs.no_ok h).elim
 · rfl
theorem look_none:∀ {l:List (Nat × SV)} {t:Nat},(∀ p∈l,p.1≠t)→look l t=undefS
 | [],_,_=>rfl
 | (k,x)::r,t,h=>by
  unfold look
  rw [show Nat.beq k t=false by rw [Bool.eq_false_iff,ne_eq,Nat.beq_eq]; exact h (k,x) (List.mem_cons_self ..),cond_false]
  exact look_none fun p hp=>h p (List.mem_cons_of_mem _ hp)
theorem wkObs_ok {β:Env} {obS:List Ob} {σ:List Nat}:∀ {obT:List Ob} {i:Nat},Eqs.ok (wkObs β obS σ obT i)→∀ (j:Nat) (x y:Ob),obT[j]?=some x→obS[σ.getD (i+j) 0]?=some y→Eqs.ok (wkOb β σ y x)
 | [],_,_,j,x,y,h,_=>by simp at h
 | z::r,i,h,j,x,y,hx,hy=>by
  unfold wkObs at h
  cases j with
  | zero =>
   simp only [List.getElem?_cons_zero] at hx
   obtain rfl:=Option.some.inj hx
   have:=Eqs.left h
   rw [Nat.add_zero] at hy
   rw [hy] at this
   exact this
  | succ j=>exact wkObs_ok (Eqs.right h) j x y (by simpa using hx) (by rw [show i+1+j=i+(j+1) by omega]; exact hy)
theorem opaqB_eq {u t:Nat} {x:SV} (h:opaqB u t x=true):x=.one (.c (.b (.gh u t))):=by
 unfold opaqB at h
 split at h
 · rw [Bool.and_eq_true,Nat.beq_eq,Nat.beq_eq] at h
   obtain ⟨rfl,rfl⟩:=h
   rfl
 · cases h
theorem wkSl_ok {β:Env} {u L:Nat} {σ:List Nat} {slS slT:List (Nat × SV)}:∀ {n:Nat},Eqs.ok (wkSl β u L σ slS slT n)→∀ t,t<n→look slT t=.one (.c (.b (.gh u t)))∨((look slT t).of (fun k=>Nat.blt k L&&!Nat.beq k u)=true∧(look slS t).den β=(look slT t).den (tEq1 β σ))
 | 0,_,t,h=>by omega
 | n+1,h,t,ht=>by
  unfold wkSl at h
  by_cases e:t=n
  · subst e
    have h:=Eqs.left h
    cases ho:opaqB u t (look slT t) with
    | true=>exact .inl (opaqB_eq ho)
    | false =>
     rw [ho,cond_false] at h
     cases hq:(look slT t).of (fun k=>Nat.blt k L&&!Nat.beq k u) with
     | true =>
      rw [hq,cond_true] at h
      obtain ⟨e,_⟩:=Eqs.cons_ok h
      injection e with e
      exact .inr ⟨rfl,e⟩
     | false=>rw [hq,cond_false] at h; exact (Eqs.no_ok h).elim
  · exact wkSl_ok (Eqs.right h) t (by omega)
theorem layB_iff {x:Ob}:layB x=true↔∃ p,x.layOf=some p:=by
 cases x<;>simp [layB,Ob.layOf]
theorem kind_lay {y x:Ob} (h:kindB y x=true) (hx:layB x=true):layB y=true:=by
 cases y<;>cases x<;>first | rfl | (cases h; done) | (cases hx; done)
theorem kind_dead {y x:Ob} (h:kindB y x=true) (hx:x≠.dead):y≠.dead:=by
 cases y<;>cases x<;>first | (intro e; cases e; done) | (cases h; done) | exact absurd rfl hx
theorem wk_hold {β β':Env} {w:World} {g:Pl} {σ:List Nat} {q:Nat→Bool} {y x:Ob} (hk:kindB y x=true) (he:Eqs.ok (wkOb β σ y x)) (hq:x.of q=true) (hβ:∀ k,q k=true→tEq1 β σ k=β' k) (h:y.holds β w g):x.holds β' w g:=by
 have thc:∀ (y:Ob) (t:Thing),Eqs.ok [(Tm.ob (y.plain (.th t)),Tm.ob (.th t))]→y.holds β w g→(Ob.th t).holds β' w g:=fun y t he h=>by
  obtain ⟨e,_⟩:=Eqs.cons_ok he
  injection e with e
  have:=Ob.plain_holds (x:=.th t) h
  rw [e] at this
  exact this
 cases x with
 | dead=>exact trivial
 | al r D=>cases y<;>(cases hk; done)
 | pl n=>cases y<;>(cases hk; done)
 | th t =>
  cases y<;>first | (cases hk; done) | exact thc _ t he h | skip
  obtain ⟨e,_⟩:=Eqs.cons_ok he
  injection e with e
  injection e with e
  subst e
  exact h.2
 | ow D' t' =>
  cases y<;>first | (cases hk; done) | skip
  obtain ⟨e,_⟩:=Eqs.cons_ok he
  injection e with e
  injection e with e e2
  subst e e2
  exact h
 | box cs' t' =>
  cases y<;>first | (cases hk; done) | skip
  rename_i cs t
  obtain ⟨e1,he⟩:=Eqs.cons_ok he
  obtain ⟨e2,_⟩:=Eqs.cons_ok he
  injection e1 with e1
  injection e2 with e2
  injection e2 with e2
  have e2:=congrArg Array.toList e2
  dsimp only at e2
  subst e1
  have hc:cs'.map (Lf.den (tEq1 β σ))=cs'.map (Lf.den β'):=all_congr hq (Lf.den_congr hβ)
  refine ⟨h.1,?_⟩
  rw [← hc,← e2]
  exact h.2
 | row cs' t' n' sz' =>
  cases y<;>first | (cases hk; done) | skip
  rename_i cs t n sz
  obtain ⟨e1,he⟩:=Eqs.cons_ok he
  obtain ⟨e3,he⟩:=Eqs.cons_ok he
  obtain ⟨e4,he⟩:=Eqs.cons_ok he
  obtain ⟨e2,_⟩:=Eqs.cons_ok he
  injection e1 with e1
  injection e3 with e3
  injection e4 with e4
  injection e2 with e2
  injection e2 with e2
  have e2:=congrArg Array.toList e2
  dsimp only at e2
  subst e1 e3 e4
  have hc:cs'.map (Lf.den (tEq1 β σ))=cs'.map (Lf.den β'):=all_congr hq (Lf.den_congr hβ)
  have hl:cs'.length=cs.length:=by
   have:=congrArg List.length e2
   rw [List.length_map,List.length_map] at this
   exact this.symm
  obtain ⟨h0,cur,h1,h2,h3,h4,h5,h6⟩:=h
  refine ⟨h0,cur,h1,by rw [hl]; exact h2,h3,h4,h5,?_⟩
  rw [← hc,← e2]
  exact h6
theorem wk_sync {P:Program} {m0 n u:Nat} {B0:Bd} {w0:World} {f:Cf P} {sl:List (Nat × SV)} {ob:List Ob} {ev:List (Ev P)} {σ:List Nat} {β:Env} {a:Act} {w:World}
  (hB:wkB m0 u f.ob ob σ=true) (hn:sl.all (fun p=>Nat.blt p.1 n)=true) (hO:Eqs.ok (wkObs β f.ob σ ob 0)) (hS:Eqs.ok (wkSl β u ob.length σ f.sl (mkC P n u sl ob ev).sl n)) (h:Sync P m0 n B0 w0 f β a w) (hBk:B0.k≤m0:=by exact Nat.le_refl _) :
  ∃ β':Env,(∀ k,k<m0→β' k=β k)∧Sync P m0 n B0 w0 (mkC P n u sl ob ev) β' a w:=by
 unfold wkB at hB
 rw [Bool.and_eq_true,Bool.and_eq_true,Bool.and_eq_true,Bool.and_eq_true,Nat.beq_eq,Nat.ble_eq,Nat.blt_eq] at hB
 obtain ⟨⟨⟨⟨hlen,hmu⟩,hul⟩,hid⟩,hall⟩:=hB
 have hσ:∀ i,i<m0→σ.getD i 0=i:=fun i hi=>Nat.eq_of_beq_eq_true (List.all_eq_true.1 hid i (List.mem_range.2 hi))
 obtain ⟨β',hβ⟩:∃ β':Env,β'=fun j=>if j=u then ⟨0,fun _=>none,fun _=>0,fun _=>False,fun t=>a.tmps.getD t undef⟩ else β (σ.getD j 0):=⟨_,rfl⟩
 have hβu:β' u=⟨0,fun _=>none,fun _=>0,fun _=>False,fun t=>a.tmps.getD t undef⟩:=by rw [hβ]; exact if_pos rfl
 have hβo:∀ j,j≠u→β' j=β (σ.getD j 0):=fun j hj=>by rw [hβ]; exact if_neg hj
 have hβm:∀ k,k<m0→β' k=β k:=fun k hk=>by rw [hβo k (by omega),hσ k hk]
 have hq:∀ k,(Nat.blt k ob.length&&!Nat.beq k u)=true→tEq1 β σ k=β' k:=fun k hk=>by
  rw [Bool.and_eq_true,Bool.not_eq_true',Nat.blt_eq] at hk
  rw [hβo k (fun e=>by rw [e,Nat.beq_refl] at hk; cases hk.2)]
  rfl
 have hmono:∀ k,(Nat.blt k ob.length&&!Nat.beq k u)=true→Nat.blt k ob.length=true:=fun k hk=>by rw [Bool.and_eq_true] at hk; exact hk.1
 have hsrc:∀ (j:Nat) (x:Ob),ob[j]?=some x→(j=u→x=.dead)∧(j≠u→∃ y,f.ob[σ.getD j 0]?=some y∧kindB y x=true∧x.of (fun k=>Nat.blt k ob.length&&!Nat.beq k u)=true)∧(layB x=true→(m0≤j→m0≤σ.getD j 0)∧∀ (i:Nat) (y:Ob),ob[i]?=some y→y≠.dead→i≠j→i≠u→σ.getD i 0≠σ.getD j 0):=by
  intro j x hx
  have hj:j<ob.length:=(List.getElem?_eq_some_iff.1 hx).1
  have hc:=List.all_eq_true.1 hall j (List.mem_range.2 hj)
  rw [hx] at hc
  dsimp only at hc
  rw [Bool.and_eq_true] at hc
  obtain ⟨hc1,hc2⟩:=hc
  refine ⟨fun e=>?_,fun e=>?_,fun hl=>?_⟩
  · rw [e,Nat.beq_refl,cond_true] at hc1
    cases x<;>first | rfl | (cases hc1; done)
  · rw [show Nat.beq j u=false by rw [Bool.eq_false_iff,ne_eq,Nat.beq_eq]; exact e,cond_false] at hc1
    split at hc1
    · cases hc1
    · rename_i y hy
      rw [Bool.and_eq_true] at hc1
      exact ⟨y,hy,hc1.1,hc1.2⟩
  · rw [hl,cond_true,Bool.and_eq_true,Bool.or_eq_true] at hc2
    refine ⟨fun hm=>?_,fun i y hy hd hij hiu e=>?_⟩
    · rcases hc2.1 with h1 | h1
      · rw [Bool.not_eq_true',Bool.eq_false_iff,ne_eq,Nat.ble_eq] at h1
        exact absurd hm h1
      · exact Nat.le_of_ble_eq_true h1
    · have hi:i<ob.length:=(List.getElem?_eq_some_iff.1 hy).1
      have h1:=List.all_eq_true.1 hc2.2 i (List.mem_range.2 hi)
      rw [hy,Bool.or_eq_true,Bool.or_eq_true,Bool.or_eq_true,Nat.beq_eq,Nat.beq_eq,e,Nat.beq_refl] at h1
      rcases h1 with h1 | h1 | h1 | h1
      · exact hij h1
      · exact hiu h1
      · refine hd ?_
        cases y<;>first | rfl | (cases h1; done)
      · cases h1
 have hex:∀ {k:Nat} {y:Ob},f.ob[k]?=some y→f.q k=true:=fun {k y} hy=>(h.q k).2 (List.getElem?_eq_some_iff.1 hy).1
 have hob:∀ {k:Nat},Nat.blt k ob.length=true→∃ x,ob[k]?=some x:=fun {k} hk=>⟨_,List.getElem?_eq_getElem (by rw [Nat.blt_eq] at hk; exact hk)⟩
 have hfree:∀ {k:Nat} {x:Ob},ob[k]?=some x→Free (fun k=>Nat.blt k ob.length) (fun k=>ob[k]?) k→layB x=true∧k≠u:=fun {k x} hx hf=>by
  rcases hf with ⟨x',e,p,hp⟩ | ⟨⟨m,e⟩,_⟩
  · dsimp only at e
    rw [hx] at e
    obtain rfl:=Option.some.inj e
    refine ⟨layB_iff.2 ⟨p,hp⟩,fun e=>?_⟩
    rw [(hsrc k x hx).1 e] at hp
    cases hp
  · dsimp only at e
    rw [hx] at e
    obtain rfl:=Option.some.inj e
    exfalso
    by_cases ek:k=u
    · have:=(hsrc k _ hx).1 ek
      cases this
    · obtain ⟨y,_,hk,_⟩:=(hsrc k _ hx).2.1 ek
      cases y<;>(cases hk; done)
 have hlayS:∀ {k:Nat} {x:Ob},ob[k]?=some x→layB x=true→k≠u→f.q (σ.getD k 0)=true∧Free f.q (fun k=>f.ob[k]?) (σ.getD k 0):=fun {k x} hx hl hku=>by
  obtain ⟨y,hy,hk,_⟩:=(hsrc k x hx).2.1 hku
  obtain ⟨p,hp⟩:=layB_iff.1 (kind_lay hk hl)
  exact ⟨hex hy,Free.lay hy hp⟩
 refine ⟨β',hβm,⟨⟨h.good.bel,h.good.le,?_,?_,?_,?_,?_,?_,?_,?_,?_⟩,fun k=>by dsimp only [mkC]; rw [Nat.blt_eq],⟨h.sl.1,fun t=>?_⟩,fun t=>?_,?_,h.defers,?_⟩⟩
 ·
  intro k o hk hko
  dsimp only [mkC] at hk hko ⊢
  by_cases e:k=u
  · rw [(hsrc k o hko).1 e]
    exact ⟨trivial,rfl⟩
  · obtain ⟨y,hy,hkd,hof⟩:=(hsrc k o hko).2.1 e
    have hh:=(h.good.hold _ y (hex hy) hy).1
    refine ⟨?_,Ob.of_mono hmono _ hof⟩
    rw [hβo k e]
    refine wk_hold hkd (wkObs_ok hO k o y hko ?_) hof hq hh
    rw [Nat.zero_add]
    exact hy
 ·
  intro k hk c hc
  dsimp only [mkC] at hk
  by_cases e:k=u
  · rw [e,hβu] at hc; exact hc.elim
  · rw [hβo k e] at hc
    obtain ⟨x,hx⟩:=hob hk
    obtain ⟨y,hy,_⟩:=(hsrc k x hx).2.1 e
    exact h.good.lt _ (hex hy) c hc
 ·
  intro k j hk hj hne hm hf hd
  dsimp only [mkC] at hk hj hf hd
  obtain ⟨x,hx⟩:=hob hk
  obtain ⟨z,hz⟩:=hob hj
  obtain ⟨hl,hku⟩:=hfree hx hf
  by_cases e:j=u
  · rw [e,hβu]; exact fun hc=>hc.elim
  · obtain ⟨hs1,hs2⟩:=hlayS hx hl hku
    obtain ⟨hm2,hdis⟩:=(hsrc k x hx).2.2 hl
    obtain ⟨y,hy,hkd,_⟩:=(hsrc j z hz).2.1 e
    have hzd:z≠.dead:=fun e=>hd (by rw [hz,e])
    rw [hβo k hku,hβo j e]
    exact h.good.ne _ _ hs1 (hex hy) (hdis j z hz hzd hne e) (hm2 hm) hs2 (fun e=>kind_dead hkd hzd (Option.some.inj (hy.symm.trans e)))
 ·
  intro k x hk hm hx hmi
  dsimp only [mkC] at hk hx
  obtain ⟨hl,hku⟩:layB x=true∧k≠u:=by
   refine ⟨?_,fun e=>by rw [(hsrc k x hx).1 e] at hmi; cases hmi⟩
   cases x<;>first | (cases hmi; done) | exact layB_iff.2 ⟨_,rfl⟩ | skip
   exfalso
   by_cases ek:k=u
   · have:=(hsrc k _ hx).1 ek
     cases this
   · obtain ⟨y,_,hk,_⟩:=(hsrc k _ hx).2.1 ek
     cases y<;>(cases hk; done)
  obtain ⟨hs1,hs2⟩:=hlayS hx hl hku
  rw [hβo k hku]
  exact h.good.low _ hs1 (((hsrc k x hx).2.2 hl).1 hm) hs2
 ·
  intro k hk hm c hc
  dsimp only [mkC] at hk
  by_cases e:k=u
  · rw [e,hβu] at hc; exact hc.elim
  · rw [hβo k e] at hc
    obtain ⟨x,hx⟩:=hob hk
    obtain ⟨y,hy,_⟩:=(hsrc k x hx).2.1 e
    by_cases hs:m0≤σ.getD k 0
    · exact (h.good.fr _ (hex hy) hs c hc).imp id fun ⟨i,i1,i2⟩=>⟨i,i1,by rw [hβm i i1]; exact i2⟩
    · exact .inr ⟨σ.getD k 0,by omega,by rw [hβm _ (by omega)]; exact hc⟩
 · intro i hi
   dsimp only [mkC]
   rw [Nat.blt_eq]
   omega
 · intro k r D hk ho
   dsimp only [mkC] at ho
   exfalso
   by_cases e:k=u
   · have:=(hsrc k _ ho).1 e
     cases this
   · obtain ⟨y,_,hkd,_⟩:=(hsrc k _ ho).2.1 e
     cases y<;>(cases hkd; done)
 · intro k r D hk ho
   dsimp only [mkC] at ho
   exfalso
   by_cases e:k=u
   · have:=(hsrc k _ ho).1 e
     cases this
   · obtain ⟨y,_,hkd,_⟩:=(hsrc k _ ho).2.1 e
     cases y<;>(cases hkd; done)
 · intro k i hk hi hlt hm hd hp
   dsimp only [mkC] at hp
   obtain ⟨M,hp⟩:=hp
   exfalso
   by_cases e:i=u
   · have:=(hsrc i _ hp).1 e
     cases this
   · obtain ⟨y,_,hkd,_⟩:=(hsrc i _ hp).2.1 e
     cases y<;>(cases hkd; done)
 ·
  by_cases ht:t<n
  · rcases wkSl_ok hS t ht with e | ⟨e1,e2⟩
    · rw [e]
      show _=(β' u).u t
      rw [hβu]
    · rw [h.sl.2 t,e2]
      exact SV.den_congr hq _ e1
  · have hl:look (mkC P n u sl ob ev).sl t=undefS:=look_none fun p hp=>by
     rcases List.mem_append.1 hp with hp | hp
     · have:=List.all_eq_true.1 hn p hp
       rw [Nat.blt_eq] at this
       omega
     · obtain ⟨t',ht',rfl⟩:=List.mem_map.1 hp
       have:=List.mem_range.1 ht'
       dsimp only
       omega
    rw [hl]
    show a.tmps.getD t undef=undef
    rw [Array.getD_eq_getD_getElem?,Array.getElem?_eq_none (by rw [h.sl.1]; omega)]
    rfl
 · by_cases ht:t<n
   · rcases wkSl_ok hS t ht with e | ⟨e1,e2⟩
     · rw [e]
       show Nat.blt u ob.length=true
       rw [Nat.blt_eq]; exact hul
     · exact SV.of_mono hmono _ e1
   · have hl:look (mkC P n u sl ob ev).sl t=undefS:=look_none fun p hp=>by
      rcases List.mem_append.1 hp with hp | hp
      · have:=List.all_eq_true.1 hn p hp
        rw [Nat.blt_eq] at this
        omega
      · obtain ⟨t',ht',rfl⟩:=List.mem_map.1 hp
        have:=List.mem_range.1 ht'
        dsimp only
        omega
     rw [hl]; rfl
 · show m0≤ob.length∧B0.k≤ob.length
   omega
 · intro k j i D D' h1 h2
   exfalso
   by_cases e:k=u
   · have:=(hsrc k _ h1).1 e
     cases this
   · obtain ⟨y,_,hkd,_⟩:=(hsrc k _ h1).2.1 e
     cases y<;>(cases hkd; done)
def HdOk (P:Program) (m0 n:Nat) (N:Nat) (w0:World) (β0:Env) (Q:Exit→Act→World→Prop) (C:Cf P) (p:Code × List Kf):Prop :=
 ∀ (β:Env) (a:Act) (w:World),(∀ k,k<m0→β k=β0 k)→Sync P m0 n (bd0 N m0) w0 C β a w→Rounds P p.1 (post P Q p.2) a w
theorem pieceE_parts {P:Program} {m0 n:Nat} {c:Code} {ks:List Kf} {f:Cf P} {u:Nat} {sl:List (Nat × SV)} {ob:List Ob} {σ:List Nat} (ev:List (Ev P)) (he:∀ β,Eqs.ok (pieceE P m0 n (some (.head c ks f)) u sl ob σ β)) :
  f.good∧∀ {N:Nat} {w0:World} {β:Env} {a:Act} {w:World},Sync P m0 n (bd0 N m0) w0 f β a w→∃ β':Env,(∀ k,k<m0→β' k=β k)∧Sync P m0 n (bd0 N m0) w0 (mkC P n u sl ob ev) β' a w:=by
 refine ⟨fun β x hx=>eqsOf_ok (Eqs.right (Eqs.right (Eqs.right (he β)))) x hx,fun {N w0 β a w} hs=>?_⟩
 have h:=he β
 have h1:=bif_ok (Eqs.left h)
 rw [Bool.and_eq_true,Bool.and_eq_true] at h1
 exact wk_sync h1.1.1 h1.2 (Eqs.left (Eqs.right h)) (Eqs.left (Eqs.right (Eqs.right h))) hs
theorem piece_ok {P:Program} {m0 n:Nat} {N:Nat} {w0:World} {β0:Env} {Q:Exit→Act→World→Prop} {Ns:List (Nat × Nat)} {m:Nat} {C:Cf P} {p p':Code × List Kf} {u:Nat} {sl:List (Nat × SV)} {ob:List Ob} (ev:List (Ev P)) (σ:List Nat) (hm:P.follows .mixedOrders=true)
  (hp:(runP P m0 n Ns m (some p.1) (.lp p.1::p.2) C).bind Stop.pos=some p') (he:∀ β,Eqs.ok (pieceE P m0 n (runP P m0 n Ns m (some p.1) (.lp p.1::p.2) C) u sl ob σ β))
  (hH:HdOk P m0 n N w0 β0 Q (mkC P n u sl ob ev) p'):HdOk P m0 n N w0 β0 Q C p:=by
 intro β a w hβ hs
 cases hr:runP P m0 n Ns m (some p.1) (.lp p.1::p.2) C with
 | none=>rw [hr] at hp; cases hp
 | some s =>
  rw [hr] at hp he
  cases s with
  | ended f=>cases hp
  | head c ks f =>
   obtain rfl:(c,ks)=p':=Option.some.inj hp
   obtain ⟨hg,hw⟩:=pieceE_parts ev he
   obtain ⟨_,_,r3⟩:=runP_ok hm _ _ _ _ _ hr ⟨hs.q,hs.uq⟩
   refine rounds_one (r3 hg hs Q fun β' a' w' e s'=>?_)
   obtain ⟨β'',e2,s2⟩:=hw s'
   exact hH β'' a' w' (fun k hk=>(e2 k hk).trans ((e k hk).trans (hβ k hk))) s2
def Said (P:Program) (fn:Func) (m0:Nat) (res:SV) (outs:List (Nat × Ob)) (β:Env) (w:World) (e:Ending) (w':World):Prop :=
 ∃ (β':Env) (q:Nat→Bool) (obj:Nat→Option Ob),(∀ k,k<m0→β' k=β k)∧e=.returned (res.den β')∧res.of q=true∧(∀ p∈outs,∀ c,(β' p.1).F c→w.heap.size≤c∨∃ i,i<m0∧(β i).F c)∧holdsAll β' w' outs∧Fin w w'
theorem fin1_parts {P:Program} {fn:Func} {m0 n:Nat} {res:SV} {outs:List (Nat × Ob)} {f:Cf P} (h:∀ β,Eqs.ok (fin1 P fn m0 n res outs f β)):f.good∧∀ {β0:Env} {w:World} {β':Env} {a':Act} {w':World},(∀ k,k<m0→β' k=β0 k)→Sync P m0 n (bd0 w.heap.size m0) w f β' a' w' →
  bodyPost P fn (Said P fn m0 res outs β0 w) .normal a' w'∧bodyPost P fn (Said P fn m0 res outs β0 w) .ret a' w':=by
 have fin:∃ r:R1 Value,run1 P m0 false (results fn (tmpsS idE f.sl n)) f.q f.ob []=some r∧res.of f.q=true∧r.ob.length=f.ob.length ∧
   ∀ β,Eqs.ok (chk P β (results fn (tmpsS β f.sl n)) r.tr.reverse (fun u=>[(.v u,.v (res.den β))])++(needEqs f.q f.ob outs++eqsOf β f.cs)):=by
  cases hx:run1 P m0 false (results fn (tmpsS idE f.sl n)) f.q f.ob [] with
  | none=>have:=h idE; unfold fin1 at this; rw [hx] at this; exact (Eqs.no_ok this).elim
  | some r =>
   obtain ⟨ra,rq,rob,rtr⟩:=r
   cases hc:(res.of f.q&&Nat.beq rob.length f.ob.length&&Nat.beq f.ev.length 0) with
   | false=>have:=h idE; unfold fin1 at this; rw [hx] at this; dsimp only at this; rw [hc] at this; exact (Eqs.no_ok this).elim
   | true =>
    have h3:=hc
    simp only [Bool.and_eq_true,Nat.beq_eq] at hc
    refine ⟨_,rfl,hc.1.1,hc.1.2,fun β=>?_⟩
    have:=h β
    unfold fin1 at this
    rw [hx] at this
    dsimp only at this
    rw [h3] at this
    exact this
 obtain ⟨r,f1,f2,f3,f4⟩:=fin
 refine ⟨fun β x hx=>eqsOf_ok (fun p hp=>f4 β p (List.mem_append.2 (.inr (List.mem_append.2 (.inr hp))))) x hx,?_⟩
 intro β0 w β' a' w' e s
 obtain ⟨h5,_,_,tr,h8,h9⟩:=run1_ok _ _ _ _ _ f1 (fun k hk=>(s.q k).1 hk)
 obtain ⟨k1,obj',k2,k3,k4⟩:=h9 _ _ _ _ _ _ s.good (fun k hk=>⟨hk,rfl⟩) (fun k a b=>by omega) s.m0.1
 have h6:=f4 β'
 rw [h8,List.append_nil,List.reverse_reverse] at h6
 have h7:Eqs.ok (chk P β' (results fn (tmpsS β' f.sl n)) tr (fun u=>[(.v u,.v (res.den β'))])):=fun p hp=>h6 p (List.mem_append.2 (.inl hp))
 obtain ⟨v,hv,hv2⟩:=chk_run _ _ _ h7 k1
 obtain ⟨e1,_⟩:=Eqs.cons_ok hv2
 injection e1 with e1
 subst e1
 rw [f3,rangeQ_self] at k4
 have hend:trEnd β' w' tr=w':=by
  obtain ⟨tr2,x1,x2⟩:=run1_still _ _ _ _ _ f1 (fun k hk=>(s.q k).1 hk) f3
  rw [h8,List.append_nil,List.append_nil] at x1
  rw [List.reverse_inj.1 x1]
  exact x2 β' w'
 rw [hend] at hv k4
 rw [← tmps_eq s.sl] at hv
 have hout:∀ p:Nat × Ob,f.q p.1=true→∀ c,(β' p.1).F c→w.heap.size≤c∨∃ i,i<m0∧(β0 i).F c:=fun p hp c hc=>by
  by_cases h0:m0≤p.1
  · exact (s.good.fr p.1 hp h0 c hc).imp (fun a=>a.elim (fun a=>a.elim id False.elim) False.elim) fun ⟨i,i1,i2⟩=>⟨i,i1,by rw [← e i i1]; exact i2⟩
  · exact .inr ⟨p.1,by omega,by rw [← e p.1 (by omega)]; exact hc⟩
 have hneed:Eqs.ok (needEqs f.q f.ob outs):=fun p hp=>f4 β' p (List.mem_append.2 (.inr (List.mem_append.2 (.inl hp))))
 have hres:bodyPost P fn (Said P fn m0 res outs β0 w) .normal a' w':=⟨s.defers,_,hv,β',f.q,obj',e,rfl,f2,fun p hp c hc=>hout p (needs_q _ hneed p hp) c hc,needs_hold s.good (fun k hk=>⟨hk,rfl⟩) _ hneed,⟨k4.bel.below⟩⟩
 exact ⟨hres,hres⟩
theorem last_ok {P:Program} {fn:Func} {m0 n:Nat} {w:World} {β0:Env} {res:SV} {outs:List (Nat × Ob)} {Ns:List (Nat × Nat)} {m:Nat} {C:Cf P} {p:Code × List Kf} (hm:P.follows .mixedOrders=true)
  (he:∀ β,Eqs.ok (lastE P fn m0 n res outs (runP P m0 n Ns m (some p.1) (.lp p.1::p.2) C) β)):HdOk P m0 n w.heap.size w β0 (bodyPost P fn (Said P fn m0 res outs β0 w)) C p:=by
 intro β a w1 hβ hs
 cases hr:runP P m0 n Ns m (some p.1) (.lp p.1::p.2) C with
 | none=>have:=he idE; rw [hr] at this; exact (Eqs.no_ok this).elim
 | some s =>
  rw [hr] at he
  cases s with
  | head c ks f=>exact (Eqs.no_ok (he idE)).elim
  | ended f =>
   obtain ⟨hg,hw⟩:=fin1_parts he
   obtain ⟨_,_,r3⟩:=runP_ok hm _ _ _ _ _ hr ⟨hs.q,hs.uq⟩
   exact rounds_one (r3 hg hs _ fun β' a' w' e s'=>hw (fun k hk=>(e k hk).trans (hβ k hk)) s')
def startP (P:Program) (fn:Func) (args:List SV) (obs:List Ob) (evs:List (Ev P)) (Ns:List (Nat × Nat)) (m:Nat):Option (Stop P):=match fn.body with
 | some c=>runP P obs.length (sizeS fn args) Ns m (some c) [] ⟨startS args 0,fun k=>Nat.blt k obs.length,obs,evs,[]⟩
 | none=>none
theorem sx_cut {P:Program} {f:FuncId} {fn:Func} (args:List SV) (obs:List Ob) (evs ev:List (Ev P)) (Ns:List (Nat × Nat)) (m:Nat) (res:SV) (outs:List (Nat × Ob)) (hf:P.funcs[f]?=some fn) (hm:P.follows .mixedOrders=true) {u:Nat} {sl:List (Nat × SV)} {ob:List Ob} {σ:List Nat} {p':Code × List Kf}
  (hp:(startP P fn args obs evs Ns m).bind Stop.pos=some p') (he:∀ β,Eqs.ok (pieceE P obs.length (sizeS fn args) (startP P fn args obs evs Ns m) u sl ob σ β))
  (hargs:args.all (SV.of fun k=>Nat.blt k obs.length)=true) (hobs:obs.all (fun x=>x.of (fun k=>Nat.blt k obs.length)&&x.own)=true) (β:Env) (w:World) (hh:∀ (k:Nat) (o:Ob),obs[k]?=some o→o.holds β w (β k))
  (hH:HdOk P obs.length (sizeS fn args) w.heap.size w β (bodyPost P fn (Said P fn obs.length res outs β w)) (mkC P (sizeS fn args) u sl ob ev) p') :
  Calls P f (args.map (SV.den β)).toArray w (Said P fn obs.length res outs β w):=by
 have hnal:∀ (k r:Nat) (D:Thing),obs[k]?≠some (.al r D):=fun k r D ho=>by
  have:=List.all_eq_true.1 hobs _ (List.mem_of_getElem? ho)
  simp [Ob.own] at this
 have huq:UniqAl obs:=fun k j i D _ h1 _=>absurd h1 (hnal k i D)
 have hlt:∀ k,k<obs.length→∀ c,(β k).F c→c<w.heap.size:=fun k hk c hc=>by
  have h:=hh k _ (List.getElem?_eq_getElem hk)
  cases hx:obs[k] with
  | box cs t=>rw [hx] at h; rw [(h.1.1 c).1 hc]; exact heap_lt h.2
  | th D=>rw [hx] at h; exact D.st.lt _ _ h c hc
  | al r D=>rw [hx] at h; exact D.st.lt _ _ h c hc
  | pl n=>rw [hx] at h; rw [(h.1.1 c).1 hc]; exact h.2.lt
  | row cs t n sz=>rw [hx] at h; rw [(h.1.1 c).1 hc]; exact heap_lt h.2.choose_spec.1
  | ow D t=>rw [hx] at h; exact D.st.lt _ _ h.2 c hc
  | dead =>
   have:=List.all_eq_true.1 hobs _ (List.mem_of_getElem? (List.getElem?_eq_getElem hk))
   rw [hx] at this
   simp [Ob.own] at this
 cases hb:fn.body with
 | none=>unfold startP at hp; rw [hb] at hp; cases hp
 | some c =>
  have hst:startP P fn args obs evs Ns m=runP P obs.length (sizeS fn args) Ns m (some c) [] ⟨startS args 0,fun k=>Nat.blt k obs.length,obs,evs,[]⟩:=by unfold startP; rw [hb]
  rw [hst] at hp he
  cases hr:runP P obs.length (sizeS fn args) Ns m (some c) [] ⟨startS args 0,fun k=>Nat.blt k obs.length,obs,evs,[]⟩ with
  | none=>rw [hr] at hp; cases hp
  | some s =>
   rw [hr] at hp he
   cases s with
   | ended f=>cases hp
   | head c1 ks1 f1 =>
    obtain rfl:(c1,ks1)=p':=Option.some.inj hp
    obtain ⟨hg,hw⟩:=pieceE_parts ev he
    obtain ⟨_,_,r3⟩:=runP_ok hm _ _ _ _ _ hr ⟨fun k=>by dsimp only; rw [Nat.blt_eq],huq⟩
    refine calls_of_wp hf hb (r3 hg (B0:=bd0 w.heap.size obs.length) (w0:=w) (β:=β) ⟨⟨Keep.refl _ _,Nat.le_refl _,fun k o hk ho=>⟨hh k o ho,(Bool.and_eq_true _ _▸List.all_eq_true.1 hobs o (List.mem_of_getElem? ho)).1⟩,fun k hk=>hlt k (by simpa [Nat.blt_eq] using hk),fun k j hk _ _ hm=>?_,fun k _ hk hm=>?_,fun k hk hm=>?_,fun i hi=>by rw [Nat.blt_eq]; exact hi,fun k r D _ ho=>?_,fun k r D _ ho=>absurd ho (hnal k r D),fun k i _ hi _ hm=>by rw [Nat.blt_eq] at hi; omega⟩,fun k=>by dsimp only; rw [Nat.blt_eq],⟨?_,fun t=>?_⟩,fun t=>?_,⟨Nat.le_refl _,Nat.le_refl _⟩,rfl,huq⟩ _ fun β' a' w' e s=>?_)
    · rw [Nat.blt_eq] at hk; omega
    · rw [Nat.blt_eq] at hk; omega
    · rw [Nat.blt_eq] at hk; omega
    · exact absurd ho (hnal k r D)
    · simp [sizeS]
    · rw [look_start,if_pos (Nat.zero_le _),Nat.sub_zero]
      simp only [Array.getD_eq_getD_getElem?,Array.getElem?_append,List.size_toArray,List.length_map,List.getElem?_toArray,List.getElem?_map]
      split
      · rename_i hlt2
        rw [List.getElem?_eq_getElem hlt2]
        rfl
      · rename_i hge
        rw [List.getElem?_eq_none (by omega)]
        simp [Array.getElem?_replicate]
        split<;>rfl
    · dsimp only
      rw [look_start,if_pos (Nat.zero_le _),Nat.sub_zero]
      cases hx:args[t]? with
      | none=>rfl
      | some x=>exact List.all_eq_true.1 hargs x (List.mem_of_getElem? hx)
    · obtain ⟨β'',e2,s2⟩:=hw s
      exact hH β'' a' w' (fun k hk=>(e2 k hk).trans (e k hk)) s2
abbrev RF (l:Option Nat):Fence:={ Fence.wide with round:=l }
theorem callsIn_rf {l:Option Nat} {n:Nat} {P:Program} {f:FuncId} {args:Array Value} {w:World} {R:Ending→World→Prop} (h:Calls P f args w R):CallsIn (RF l) n P f args w R:=(callsIn_wide (n:=n)).2 h
theorem rowsIn_rf {l:Option Nat} {n:Nat} {P:Program} {row:String} {args:Array Value} {w:World} {R:Value→World→Prop} (h:Rows P row args w R):RowsIn (RF l) n P row args w R :=
 fun c cs _=>let ⟨v,w',r,s⟩:=h c cs; ⟨v,w',r,(stepsIn_wide (P:=P)).2 s⟩
def isDefer:Op→Bool
 | .defer _=>true
 | _=>false
section
variable {l:Option Nat} {n:Nat} {P:Program} {Q:Exit→Act→World→Prop}
theorem oper_rf {o:Oper} (hd:isDefer o.op=false) {a:Act} {w:World} {K:Act→World→Prop} (h:o.wp P a w K Q):o.wpIn (RF l) n P a w K Q:=by
 refine ⟨fun _ _=>trivial,?_⟩
 rw [Oper.semAt_eq _ _ _ (fun c e=>by rw [e] at hd; cases hd)]
 unfold Oper.wp at h
 generalize (execOp a.eval o).run P w=r at *
 cases r with
 | ok x w' =>
  cases x<;>simp only [Oper.upon,Oper.uponIn] at h ⊢ <;>
   first
    | exact h
    | exact ⟨fun e=>by simp [Fence.wide] at e,callsIn_rf h⟩
    | exact ⟨fun e=>by simp [Fence.wide] at e,rowsIn_rf h⟩
    | exact h.elim
 | halt hh w'=>cases hh<;>simp only [Oper.upon,Oper.uponIn] at h ⊢<;>first | exact h | exact h.elim
variable {ops:Array Oper} (hL:¬ LetsOut Q)
include hL
theorem any_rf (hops:∀ o∈ops,isDefer o.op=false) {md:Region.Mode}:∀ (fuel:Nat) (listed:Array Bool) (a:Act) (w:World),wpAny P md ops Q fuel listed a w→wpAnyIn (RF l) n P md ops Q fuel listed a w
 | 0,_,_,_,h=>h
 | fuel+1,listed,a,w,h=>⟨h.1,fun i hi=>by
  have h1:=h.2 i hi
  unfold wpOp at h1
  unfold wpOpIn
  split
  · rename_i e
    rw [e] at h1
    exact any_rf hops fuel _ a w h1
  · rename_i o e
    rw [e] at h1
    dsimp only at h1
    split
    · rename_i hw
      rw [if_pos hw] at h1
      rcases h1 with h1 | h1
      · exact Oper.wpIn_mono (fun a w h=>any_rf hops fuel _ a w h) (oper_rf (hops o (Array.mem_of_getElem? e)) h1)
      · exact absurd h1.2 hL
    · rename_i hw
      rw [if_neg hw] at h1
      exact ⟨fun _ _=>trivial,any_rf hops fuel _ _ w h1⟩⟩
theorem list_rf:∀ (r:List Oper),(∀ o∈r,isDefer o.op=false)→∀ (a:Act) (w:World),wpList P ops Q r a w→wpListIn (RF l) n P ops Q r a w
 | [],_,_,_,h=>h
 | o::r,hops,a,w,h=>by
  unfold wpList at h
  unfold wpListIn
  split
  · rename_i hw
    rw [if_pos hw] at h
    rcases h with h | h
    · exact Oper.wpIn_mono (fun a w h=>list_rf r (fun o ho=>hops o (List.mem_cons_of_mem _ ho)) a w h) (oper_rf (hops o (List.mem_cons_self ..)) h)
    · exact absurd h.2 hL
  · rename_i hw
    rw [if_neg hw] at h
    exact ⟨fun _ _=>trivial,list_rf r (fun o ho=>hops o (List.mem_cons_of_mem _ ho)) _ w h⟩
end
def postI (l:Option Nat) (nn:Nat) (P:Program) (Q:Exit→Act→World→Prop):List Kf→Exit→Act→World→Prop
 | []=>Q
 | .sq c::r=>Exit.then (c.wpIn (RF l) nn P (postI l nn P Q r)) (postI l nn P Q r)
 | .bl i::r=>Exit.inBlock i (postI l nn P Q r)
 | .lp _::r=>postI l nn P Q r
 | .sc::r=>Exit.noGoto (postI l nn P Q r)
theorem postI_ret {l:Option Nat} {nn:Nat} {P:Program} {Q:Exit→Act→World→Prop} {a:Act} {w:World} (h:Q .ret a w):∀ ks,postI l nn P Q ks .ret a w
 | []=>h
 | .sq _::r=>postI_ret h r
 | .bl _::r=>postI_ret h r
 | .lp _::r=>postI_ret h r
 | .sc::r=>postI_ret h r
theorem postI_out {l:Option Nat} {nn:Nat} {P:Program} {Q:Exit→Act→World→Prop} (h:¬ LetsOut Q):∀ ks,¬ LetsOut (postI l nn P Q ks)
 | []=>h
 | .sq _::r=>postI_out h r
 | .bl _::r=>postI_out h r
 | .lp _::r=>postI_out h r
 | .sc::r=>postI_out h r
def popNl (id:Nat):List Kf→Option (List Kf)
 | []=>none
 | .bl i::r=>bif Nat.beq i id then some r else popNl id r
 | .lp _::_=>none
 | _::r=>popNl id r
theorem postI_exit {l:Option Nat} {nn:Nat} {P:Program} {Q:Exit→Act→World→Prop} {a:Act} {w:World} {i:Nat}:∀ {ks r},popNl i ks=some r→postI l nn P Q r .normal a w→postI l nn P Q ks (.exit i) a w
 | [],_,h,_=>by cases h
 | .sq _::ks,r,h,k=>postI_exit (ks:=ks) (r:=r) h k
 | .lp _::ks,r,h,k=>by cases h
 | .sc::ks,r,h,k=>postI_exit (ks:=ks) (r:=r) h k
 | .bl j::ks,r,h,k=>by
  simp only [popNl,cond_eq_ite,Nat.beq_eq] at h
  simp only [postI,Exit.inBlock]
  split at h
  · rename_i e
    obtain rfl:=Option.some.inj h
    rw [if_pos e.symm]
    exact k
  · rename_i e
    rw [if_neg (Ne.symm e)]
    exact postI_exit (ks:=ks) (r:=r) h k
inductive StopX (P:Program) where
 | ended (b:Bool) (f:Cf P)
 | range (g:Operand) (ps:Array Tmp) (x y:Code) (ks:List Kf) (f:Cf P)
def StopX.cf {P:Program}:StopX P→Cf P
 | .ended _ f=>f
 | .range _ _ _ _ _ f=>f
def endOf:Bool→Exit
 | true=>.ret
 | false=>.normal
def StopX.after {P:Program} (l:Option Nat) (nn:Nat) (Q:Exit→Act→World→Prop) (a:Act) (w:World):StopX P→Prop
 | .ended b _=>Q (endOf b) a w
 | .range g ps x y ks _=>(Code.rangeFunc g ps x y).wpIn (RF l) nn P (postI l nn P Q ks) a w
def runI (P:Program) (m0 n:Nat) (Ns:List (Nat × Nat)):Nat→Option Code→List Kf→Cf P→Option (StopX P)
 | 0,_,_,_=>none
 | m+1,oc,ks,f=>match oc with
  | none=>match ks with
   | []=>some (.ended false f)
   | .sq c::r=>runI P m0 n Ns m (some c) r f
   | .bl _::r=>runI P m0 n Ns m none r f
   | .lp _::_=>none
   | .sc::r=>runI P m0 n Ns m none r f
  | some c=>match c with
   | .skip=>runI P m0 n Ns m none ks f
   | .label _=>runI P m0 n Ns m none ks f
   | .region id ops d=>bif ops.toList.all (fun o=>!isDefer o.op) then (match (bif d then drawS1 P m0 n Ns id ops.toList f else seqS P m0 n ops ops.toList f) with
    | some f'=>runI P m0 n Ns m none ks f'
    | none=>none) else none
   | .seq a b=>runI P m0 n Ns m (some a) (.sq b::ks) f
   | .cond x a b=>match evS idE f.sl x with
    | .bool true=>runI P m0 n Ns m (some a) ks { f with cs:=(fun β=>[(.v (evS β f.sl x),.v (.bool true))])::f.cs }
    | .bool false=>runI P m0 n Ns m (some b) ks { f with cs:=(fun β=>[(.v (evS β f.sl x),.v (.bool false))])::f.cs }
    | _=>none
   | .block id c=>runI P m0 n Ns m (some c) (.bl id::ks) f
   | .exit id=>match popNl id ks with
    | some r=>runI P m0 n Ns m none r f
    | none=>none
   | .rangeFunc g ps x y=>some (.range g ps x y ks f)
   | .ret=>some (.ended true f)
   | _=>none
def toShowI (l:Option Nat) (nn:Nat) (P:Program) (Q:Exit→Act→World→Prop) (oc:Option Code) (ks:List Kf) (a:Act) (w:World):Prop:=match oc with
 | some c=>c.wpIn (RF l) nn P (postI l nn P Q ks) a w
 | none=>postI l nn P Q ks .normal a w
theorem runI_ok {P:Program} {m0 n nn:Nat} {l:Option Nat} {Ns:List (Nat × Nat)} (hm:P.follows .mixedOrders=true):∀ (m:Nat) (oc:Option Code) (ks:List Kf) (f:Cf P) (s:StopX P),runI P m0 n Ns m oc ks f=some s→f.full→(∀ x∈f.cs,x∈s.cf.cs)∧s.cf.full ∧
  (s.cf.good→∀ {B0:Bd} {w0:World} {β:Env} {a:Act} {w:World},Sync P m0 n B0 w0 f β a w→∀ (Q:Exit→Act→World→Prop),¬ LetsOut Q→(∀ β' a' w',(∀ k,k<B0.k→β' k=β k)→Sync P m0 n B0 w0 s.cf β' a' w'→s.after l nn Q a' w')→toShowI l nn P Q oc ks a w):=by
 intro m
 induction m with
 | zero=>intro oc ks f f' h; simp only [runI] at h; cases h
 | succ m ih =>
  intro oc ks f f' h hf
  simp only [runI] at h
  cases oc with
  | none =>
   dsimp only at h
   cases ks with
   | nil =>
    obtain rfl:=Option.some.inj h
    exact ⟨fun _ hx=>hx,hf,fun _ B0 w0 β a w s Q hL hQ=>hQ β a w (fun _ _=>rfl) s⟩
   | cons x r =>
    cases x with
    | sq c=>obtain ⟨i1,i2,i3⟩:=ih _ _ _ _ h hf; exact ⟨i1,i2,fun hg B0 w0 β a w s Q hL hQ=>i3 hg s Q hL hQ⟩
    | bl j=>obtain ⟨i1,i2,i3⟩:=ih _ _ _ _ h hf; exact ⟨i1,i2,fun hg B0 w0 β a w s Q hL hQ=>i3 hg s Q hL hQ⟩
    | lp c=>cases h
    | sc=>obtain ⟨i1,i2,i3⟩:=ih _ _ _ _ h hf; exact ⟨i1,i2,fun hg B0 w0 β a w s Q hL hQ=>i3 hg s Q hL hQ⟩
  | some c =>
   cases c with
   | skip=>obtain ⟨i1,i2,i3⟩:=ih _ _ _ _ h hf; exact ⟨i1,i2,fun hg B0 w0 β a w s Q hL hQ=>wpIn_skip (i3 hg s Q hL hQ)⟩
   | label l=>obtain ⟨i1,i2,i3⟩:=ih _ _ _ _ h hf; exact ⟨i1,i2,fun hg B0 w0 β a w s Q hL hQ=>wpIn_label (i3 hg s Q hL hQ)⟩
   | region rid ops d =>
    dsimp only at h
    rw [cond_eq_ite] at h
    split at h
    · rename_i hdf
      have hdf2:∀ o∈ops.toList,isDefer o.op=false:=fun o ho=>by
       have:=List.all_eq_true.1 hdf o ho
       simpa using this
      split at h
      · rename_i f1 h1
        cases d with
        | true =>
         simp only [cond_true] at h1
         have hf1:=drawS1_full h1 hf
         obtain ⟨i1,i2,i3⟩:=ih _ _ _ _ h hf1
         obtain ⟨j1,j2⟩:=drawS1_ok hm h1 (fun k hk=>(hf.1 k).1 hk) hf.2
         refine ⟨fun x hx=>i1 x (j1 x hx),i2,fun hg B0 w0 β a w s Q hL hQ=>?_⟩
         have:=j2 (fun β x hx=>hg β x (i1 x hx)) s (postI l nn P Q ks) fun β' a' w' e s'=>i3 hg s' Q hL fun β2 a2 w2 e2 s2=>hQ β2 a2 w2 (fun k hk=>(e2 k hk).trans (e k hk)) s2
         unfold RegAny at this
         simp only [Array.toArray_toList] at this
         exact wpIn_region_any hm (any_rf (postI_out hL ks) (fun o ho=>hdf2 o (by simpa using ho)) _ _ _ _ this)
        | false =>
         simp only [cond_false] at h1
         have hf1:=seqS_full h1 hf
         obtain ⟨i1,i2,i3⟩:=ih _ _ _ _ h hf1
         obtain ⟨j1,j2⟩:=seqS_ok h1
         exact ⟨fun x hx=>i1 x (j1 x hx),i2,fun hg B0 w0 β a w s Q hL hQ=>wpIn_region_list (list_rf (postI_out hL ks) _ hdf2 _ _ (j2 (fun β x hx=>hg β x (i1 x hx)) s (postI l nn P Q ks) fun β' a' w' e s'=>i3 hg s' Q hL fun β2 a2 w2 e2 s2=>hQ β2 a2 w2 (fun k hk=>(e2 k hk).trans (e k hk)) s2))⟩
      · cases h
    · cases h
   | seq c d=>obtain ⟨i1,i2,i3⟩:=ih _ _ _ _ h hf; exact ⟨i1,i2,fun hg B0 w0 β a w s Q hL hQ=>wpIn_seq (i3 hg s Q hL hQ)⟩
   | cond x c d =>
    dsimp only at h
    split at h
    · obtain ⟨i1,i2,i3⟩:=ih _ _ _ _ h hf
      refine ⟨fun y hy=>i1 y (List.mem_cons_of_mem _ hy),i2,fun hg B0 w0 β a w s Q hL hQ=>?_⟩
      obtain ⟨e,_⟩:=Eqs.cons_ok (hg β _ (i1 _ (List.mem_cons_self ..)))
      injection e with e
      exact wpIn_cond_true (by rw [s.sl.eval]; exact e) (i3 hg (s.cs _) Q hL hQ)
    · obtain ⟨i1,i2,i3⟩:=ih _ _ _ _ h hf
      refine ⟨fun y hy=>i1 y (List.mem_cons_of_mem _ hy),i2,fun hg B0 w0 β a w s Q hL hQ=>?_⟩
      obtain ⟨e,_⟩:=Eqs.cons_ok (hg β _ (i1 _ (List.mem_cons_self ..)))
      injection e with e
      exact wpIn_cond_false (by rw [s.sl.eval]; exact e) (i3 hg (s.cs _) Q hL hQ)
    · cases h
   | block j c=>obtain ⟨i1,i2,i3⟩:=ih _ _ _ _ h hf; exact ⟨i1,i2,fun hg B0 w0 β a w s Q hL hQ=>wpIn_block (i3 hg s Q hL hQ)⟩
   | exit j =>
    dsimp only at h
    split at h
    · rename_i r hr
      obtain ⟨i1,i2,i3⟩:=ih _ _ _ _ h hf
      exact ⟨i1,i2,fun hg B0 w0 β a w s Q hL hQ=>wpIn_exit (postI_exit hr (i3 hg s Q hL hQ))⟩
    · cases h
   | rangeFunc g ps x y =>
    obtain rfl:=Option.some.inj h
    exact ⟨fun _ hx=>hx,hf,fun _ B0 w0 β a w s Q hL hQ=>hQ β a w (fun _ _=>rfl) s⟩
   | ret =>
    obtain rfl:=Option.some.inj h
    exact ⟨fun _ hx=>hx,hf,fun _ B0 w0 β a w s Q hL hQ=>wpIn_ret (postI_ret (hQ β a w (fun _ _=>rfl) s) ks)⟩
   | _=>cases h
def bdR (k:Nat) (w:World) (m0:Nat) (ex:Nat→Bool) (obj:Nat→Option Ob) (β:Env) (df:List Deferred):Bd :=
 ⟨w.heap.size,fun c=>∃ i x,ex i=true∧m0≤i∧obj i=some x∧x.mine=true∧c=(β i).b,k,fun c=>∃ k,ex k=true∧m0≤k∧(β k).F c,df⟩
section
variable {B:Bd} {m0:Nat} {w0:World} {ex:Nat→Bool} {obj:Nat→Option Ob} {β:Env} {w:World} (h:Good B m0 w0 ex obj β w)
include h
theorem Good.restart (kk:Nat) (df:List Deferred):Good (bdR kk w m0 ex obj β df) m0 w ex obj β w :=
 ⟨Keep.refl _ _,Nat.le_refl _,h.hold,h.lt,h.ne,fun k x hk hm hx hmi=>.inr ⟨k,x,hk,hm,hx,hmi,rfl⟩,fun k hk hm c hc=>.inl (.inr ⟨k,hk,hm,hc⟩),h.ar,h.al,h.alb,h.ord⟩
theorem Good.back_has {kk:Nat} {df:List Deferred} {c:Nat} (hc:(bdR kk w m0 ex obj β df).has c):B.has c:=by
 rcases hc with hc | ⟨k,x,hk,hm,hx,hmi,rfl⟩
 · exact .inl (Nat.le_trans h.le hc)
 · exact h.lowm k x hk hm hx hmi
theorem Keep.back {kk:Nat} {df:List Deferred} {w':World} (k:Keep (bdR kk w m0 ex obj β df) w w'):Keep B w0 w' :=
 h.bel.trans ⟨k.os,k.tape,k.output,k.size,fun i hi hs=>k.block i (Nat.lt_of_lt_of_le hi h.le) fun hc=>(h.back_has (.inr hc)).elim (fun a=>absurd hi (Nat.not_lt.2 a)) hs⟩
theorem Good.back {kk:Nat} {df:List Deferred} {ex':Nat→Bool} {obj':Nat→Option Ob} {β':Env} {w':World} (h':Good (bdR kk w m0 ex obj β df) m0 w ex' obj' β' w') (hβ:∀ i,i<m0→β' i=β i):Good B m0 w0 ex' obj' β' w':=by
 refine ⟨Keep.back h h'.bel,Nat.le_trans h.le h'.bel.size,h'.hold,h'.lt,h'.ne,fun k x hk hm hx hmi=>h.back_has (h'.lowm k x hk hm hx hmi),fun k hk hm c hc=>?_,h'.ar,h'.al,h'.alb,h'.ord⟩
 rcases h'.fr k hk hm c hc with (h1 | ⟨j,h1,h2,h3⟩) | h1
 · exact .inl (.inl (h.back_has h1))
 · exact (h.fr j h1 h2 c h3).imp id fun ⟨i,i1,i2⟩=>⟨i,i1,by rw [hβ i i1]; exact i2⟩
 · exact .inr h1
theorem Good.side {b o n:Nat} {w':World} (hw:NW w b) (ht:Touch w w' b o n) (hB:B.has b) (hF:∀ k x,ex k=true→obj k=some x→x≠.dead→¬ (β k).F b):Good B m0 w0 ex obj β w':=by
 refine ⟨h.bel.touch ht hB h.le,Nat.le_trans h.le ht.size,?_,fun k hk c hc=>Nat.lt_of_lt_of_le (h.lt k hk c hc) ht.size,h.ne,h.lowm,h.fr,h.ar,h.al,h.alb,h.ord⟩
 intro k x hk hx
 refine ⟨?_,(h.hold k x hk hx).2⟩
 have hh:=(h.hold k x hk hx).1
 by_cases hdd:x=.dead
 · rw [hdd]; exact trivial
 have hne:=hF k x hk hx hdd
 have hblk:(β k).one→w'.heap[(β k).b]?=w.heap[(β k).b]?:=fun h1=>ht.block _ (h.lt k hk _ ((h1.1 _).2 rfl)) fun e=>hne ((h1.1 _).2 e.symm)
 cases x with
 | box cs' t' =>
  simp only [Ob.holds] at hh ⊢
  rw [hblk hh.1]
  exact hh
 | row cs' t' n' sz' =>
  simp only [Ob.holds] at hh ⊢
  rw [hblk hh.1]
  exact hh
 | ow D u=>exact ⟨⟨hh.1.1,hh.1.2.1,by rw [ht.block _ (h.lt k hk _ hh.1.1) (fun e=>hne (by rw [← e]; exact hh.1.1))]; exact hh.1.2.2⟩,D.st.touch w _ _ _ _ _ 0 hh.2 hw ht hne⟩
 | th D=>exact D.st.touch w _ _ _ _ _ 0 hh hw ht hne
 | al r D=>exact D.st.touch w _ _ _ _ _ 0 hh hw ht hne
 | pl n=>exact ⟨hh.1,Slot.touch hh.2 ht⟩
 | dead=>exact trivial
end
theorem grown_touch {w w':World} {r:Nat} {o:Obj} (g:w.grownBy w' (some r)) (h:w.heap[r]?=some o) (hc:o.isCells=false):NW w r∧Touch w w' r 0 0 :=
 ⟨fun cs fr e=>(by rw [h] at e; cases e; cases hc),⟨g.os,g.tape,g.output,g.size,fun k hk hne=>g.block k hk (fun e=>hne (Option.some.inj e)),fun cs t fr e=>(by rw [h] at e; cases e; cases hc)⟩⟩
def obClB:Ob→Bool
 | .th t=>t.cl
 | .al _ t=>t.cl
 | .ow _ _=>false
 | _=>true
theorem ob_cells {x:Ob} (h:obClB x=true) (hd:x≠.dead) {β:Env} {w:World} {g:Pl} (hh:x.holds β w g) (c:Nat) (hc:g.F c):∃ cs t fr,w.heap[c]?=some (.cells cs t fr):=by
 cases x with
 | box cs t=>rw [(hh.1.1 c).1 hc]; exact ⟨_,_,_,hh.2⟩
 | row cs t n sz=>rw [(hh.1.1 c).1 hc]; exact ⟨_,_,_,hh.2.choose_spec.1⟩
 | th t=>exact t.clok h w g hh c hc
 | al r t=>exact t.clok h w g hh c hc
 | pl n=>rw [(hh.1.1 c).1 hc]; obtain ⟨cs,t,h1,_⟩:=hh.2; exact ⟨_,_,_,h1⟩
 | ow D t=>cases h
 | dead=>exact absurd rfl hd
theorem Good.grown {B:Bd} {m0:Nat} {w0:World} {ex:Nat→Bool} {obj:Nat→Option Ob} {β:Env} {w w':World} (h:Good B m0 w0 ex obj β w) (hC:∀ k x,ex k=true→obj k=some x→obClB x=true) {row:Option Nat} (g:w.grownBy w' row) (hr:∀ r,row=some r→B.n≤r∧∃ o:Obj,w.heap[r]?=some o∧o.isCells=false):Good B m0 w0 ex obj β w':=by
 cases row with
 | none=>exact h.on ⟨g.os,g.tape,g.output,g.size,fun k hk=>g.block k hk (fun e=>by cases e)⟩
 | some r =>
  obtain ⟨h1,o,h2,h3⟩:=hr r rfl
  obtain ⟨t1,t2⟩:=grown_touch g h2 h3
  refine h.side t1 t2 (.inl h1) fun k x hk hx hd hF=>?_
  obtain ⟨cs,t,fr,k1⟩:=ob_cells (hC k x hk hx) hd (h.hold k x hk hx).1 r hF
  rw [h2] at k1
  cases k1
  cases h3
def postR (B:Nat) (I Ix:World→Prop) (W:World):Exit→Act→World→Prop
 | .normal,_,W'=>KeepsFrom B W W'∧I W'
 | .ret,_,W'=>KeepsFrom B W W'∧Ix W'
 | _,_,_=>False
theorem postR_out {B:Nat} {I Ix:World→Prop} {W:World}:¬ LetsOut (postR B I Ix W):=fun ⟨_,_,h⟩=>h
theorem rf_law {P:Program} {n:Nat} {g:Operand} {ps:Array Tmp} {assign body:Code} {Q:Exit→Act→World→Prop} {a:Act} {w:World}
  {gf:Nat} {lb:Array Value} (hg:a.eval g=.func (.func gf) #[] lb) (eg:∀ args w,(callFunc gf args).run P w=.ok (.enter gf args) w)
  (N:Nat) (encs:Nat→Array Value) (I:Nat→World→Prop) (hps:∀ k W,I k W→k<N→(encs k).size=ps.size) (Ix:World→Prop)
  (hI:∀ k W W' row,I k W→W.grownBy W' row→(∀ r,row=some r→w.heap.size≤r∧∃ o:Obj,W.heap[r]?=some o∧o.isCells=false)→I k W')
  (hIx:∀ W W' row,Ix W→W.grownBy W' row→(∀ r,row=some r→w.heap.size≤r∧∃ o:Obj,W.heap[r]?=some o∧o.isCells=false)→Ix W')
  (h0:I 0 w)
  (hiter:∀ (l:Nat) (J:Nat→World→Prop) (Jx:World→Prop) (W:World),(∀ k W,J k W→I k W) →
   (∀ k W1,J k W1→k<N→YieldAt Fence.wide (n-1-1) P l (encs k) W1 fun e W'=>(e=.returned (.bool true)∧J (k+1) W')∨(e=.returned (.bool false)∧Jx W'))→J 0 W →
   CallsIn Fence.wide (n-1) P gf (#[.func (.yield l) #[] #[]]++lb) W fun e W'=>(∃ v,e=.returned v)∧(J N W'∨Jx W'))
  (hround:∀ (l k:Nat) (W:World),w.heap.size≤l→(∃ o:Obj,W.heap[l]?=some o∧o.isCells=false)→I k W→k<N →
   assign.wpIn (RF (some l)) (n-1-1) P (Exit.then (fun a1 W1=>KeepsFrom w.heap.size W W1∧∀ W2,W1.grownBy W2 (some l)→body.wpIn (RF (some l)) (n-1-1) P (postR w.heap.size (I (k+1)) Ix W2) a1 W2) (fun _ _ _=>False))
    { tmps:=(ps.zip (encs k)).foldl (fun t (p,v)=>t.setIfInBounds p v) a.tmps,defers:=[] } W)
  (hdone:∀ (D:Nat) (W:World),w.heap.size≤D→I N W→W.heap[D]?=some (.deferred (some []))→Q .normal { a with defers:={ target:=.collected D,args:=#[] }::a.defers } W)
  (hstop:∀ (D:Nat) (W:World),w.heap.size≤D→Ix W→W.heap[D]?=some (.deferred (some []))→Q .ret { a with defers:={ target:=.collected D,args:=#[] }::a.defers } W) :
  (Code.rangeFunc g ps assign body).wpIn Fence.wide n P Q a w:=by
 refine wpIn_rangeFunc ?_
 intro fn hfn
 obtain ⟨rec,hrec⟩:∃ rec:LoopState→Option Code→Loop,rec=fun st pe=>{ state:=st,pending:=pe,fn,tmps:=a.tmps,params:=ps,assign,body,defers:=w.heap.size }:=⟨_,rfl⟩
 obtain ⟨W1,hW1⟩:∃ W1,(w.alloc (.deferred (some []))).alloc (.loop (rec .ready none))=W1:=⟨_,rfl⟩
 have hL1:W1.heap[w.heap.size+1]?=some (.loop (rec .ready none)):=by
  rw [← hW1]; have:=World.alloc_heap_new (w.alloc (.deferred (some []))) (.loop (rec .ready none)); rwa [World.size_alloc] at this
 have hK1:W1.heap[w.heap.size]?=some (.deferred (some [])):=by
  rw [← hW1]; exact (Below.heap_alloc _ _ _ (by simp)).trans (World.alloc_heap_new w _)
 have nor:∀ {X:World} (r:Nat),(none:Option Nat)=some r→w.heap.size≤r∧∃ o:Obj,X.heap[r]?=some o∧o.isCells=false:=fun r e=>by cases e
 have hI1:I 0 W1:=by rw [← hW1]; exact hI _ _ _ none (hI _ _ _ none h0 (World.grownBy_alloc w _ none) nor) (World.grownBy_alloc _ _ none) nor
 refine ⟨w.heap.size+1,[{ target:=.collected w.heap.size,args:=#[] }],W1,{ target:=.fn (.func gf) lb,args:=#[.func (.yield (w.heap.size+1)) #[] #[]] },W1,gf,
  #[.func (.yield (w.heap.size+1)) #[] #[]]++lb,W1,?_,?_,?_,?_,fun e=>(by simp [Fence.wide] at e),?_⟩
 · rw [← hW1,hrec]; exact run_enterLoop_outer _ _ _ _ _
 · simp only [resolve,hg]
   simp [go_sem]
 · intro f' hf'; trivial
 · simp [invoke,go_sem,eg]
 · refine (hiter (w.heap.size+1)
    (fun k W=>I k W∧W.heap[w.heap.size+1]?=some (.loop (rec .ready none))∧W.heap[w.heap.size]?=some (.deferred (some [])))
    (fun W=>Ix W∧W.heap[w.heap.size+1]?=some (.loop (rec .done (some .ret)))∧W.heap[w.heap.size]?=some (.deferred (some [])))
    W1 (fun k W h=>h.1) ?_ ⟨hI1,hL1,hK1⟩).mono ?_
   · rintro k W ⟨hi,hl,hk⟩ hlen
     have hy:=run_yield (P:=P) (args:=encs k) hl (by rw [hrec]; exact hps k W hi hlen)
     rw [hrec] at hy
     refine ⟨fn,_,assign,body,hy,roundIn_of_wpIn hfn ?_⟩
     refine wpIn_mono (hround (w.heap.size+1) k W (by omega) ⟨_,hl,rfl⟩ hi hlen) ?_
     rintro e a1 W2 h2
     cases e with
     | normal =>
      obtain ⟨hk2,h2⟩:=h2
      have hl2:=hk2.same _ _ (by omega) hl rfl
      have hd2:=hk2.same _ _ (Nat.le_refl _) hk rfl
      have hlt:w.heap.size+1<W2.heap.size:=(Array.getElem?_eq_some_iff.1 hl2).1
      refine ⟨_,run_beginRound hl2 (by rw [hrec]),?_⟩
      have hl3:(W2.putObj (w.heap.size+1) (.loop { rec .ready none with state:=.busy })).heap[w.heap.size+1]?=some (.loop { rec .ready none with state:=.busy }):=World.putObj_heap_same hlt
      have hd3:(W2.putObj (w.heap.size+1) (.loop { rec .ready none with state:=.busy })).heap[w.heap.size]?=some (.deferred (some [])):=(World.putObj_heap_other (by omega)).trans hd2
      refine wpIn_mono (h2 _ (grownBy_putObj' W2 _ _)) ?_
      have fin:∀ (jump:Option Code) (W3:World),KeepsFrom w.heap.size (W2.putObj (w.heap.size+1) (.loop { rec .ready none with state:=.busy })) W3 →
        (Instr.endRound (w.heap.size+1) jump).run P W3=.ok (.bool jump.isNone) (W3.putObj (w.heap.size+1) (.loop (rec (if jump.isNone then .ready else .done) jump))) ∧
        W3.heap[w.heap.size+1]?=some (.loop { rec .ready none with state:=.busy }) ∧
        (W3.putObj (w.heap.size+1) (.loop (rec (if jump.isNone then .ready else .done) jump))).heap[w.heap.size+1]?=some (.loop (rec (if jump.isNone then .ready else .done) jump)) ∧
        (W3.putObj (w.heap.size+1) (.loop (rec (if jump.isNone then .ready else .done) jump))).heap[w.heap.size]?=some (.deferred (some [])):=fun jump W3 hk3=>by
       have hl4:=hk3.same _ _ (by omega) hl3 rfl
       have:=run_endRound (P:=P) jump hl4
       rw [hrec] at this ⊢
       exact ⟨this,by rw [hrec] at hl4; exact hl4,World.putObj_heap_same (Array.getElem?_eq_some_iff.1 hl4).1,(World.putObj_heap_other (by omega)).trans (hk3.same _ _ (Nat.le_refl _) hd3 rfl)⟩
      have one:∀ {X:World} {o:Obj},X.heap[w.heap.size+1]?=some o→o.isCells=false→∀ r,some (w.heap.size+1)=some r→w.heap.size≤r∧∃ o:Obj,X.heap[r]?=some o∧o.isCells=false:=fun h1 h2 r e=>by cases e; exact ⟨by omega,_,h1,h2⟩
      rintro e a3 W3 hp
      cases e with
      | normal =>
       obtain ⟨hk3,hi3⟩:=hp
       obtain ⟨hr,hl4,hl5,hk5⟩:=fin none W3 hk3
       exact ⟨_,_,hr,.inl ⟨rfl,hI _ _ _ _ hi3 (grownBy_putObj' W3 _ _) (one hl4 rfl),hl5,hk5⟩⟩
      | ret =>
       obtain ⟨hk3,hi3⟩:=hp
       obtain ⟨hr,hl4,hl5,hk5⟩:=fin (some .ret) W3 hk3
       exact ⟨_,_,hr,.inr ⟨rfl,hIx _ _ _ hi3 (grownBy_putObj' W3 _ _) (one hl4 rfl),hl5,hk5⟩⟩
      | exit id=>exact hp.elim
      | goto t=>exact hp.elim
      | panic ch=>exact hp.elim
      | outgrown=>exact hp.elim
     | exit id=>exact h2.elim
     | ret=>exact h2.elim
     | goto t=>exact h2.elim
     | panic ch=>exact h2.elim
     | outgrown=>exact h2.elim
   · rintro e W2 ⟨⟨v,rfl⟩,(⟨hi,hl,hk⟩ | ⟨hi,hl,hk⟩)⟩
     · refine ⟨none,_,by have:=run_endLoop (P:=P) hl (by rw [hrec]; simp); rw [hrec] at this; exact this,hdone _ _ (Nat.le_refl _) (hI _ _ _ _ hi (grownBy_putObj' W2 _ _) fun r e=>?_) ((World.putObj_heap_other (by omega)).trans hk)⟩
       cases e; exact ⟨by omega,_,hl,rfl⟩
     · refine ⟨some .ret,_,by have:=run_endLoop (P:=P) hl (by rw [hrec]; simp); rw [hrec] at this; exact this,wpIn_ret (hstop _ _ (Nat.le_refl _) (hIx _ _ _ hi (grownBy_putObj' W2 _ _) fun r e=>?_) ((World.putObj_heap_other (by omega)).trans hk))⟩
       cases e; exact ⟨by omega,_,hl,rfl⟩
def setPs:List (Nat × SV)→List Nat→List SV→List (Nat × SV)
 | sl,p::ps,x::xs=>setPs (putS sl (some p) x) ps xs
 | sl,_,_=>sl
def roundS (P:Program) (m0 n:Nat) (Ns:List (Nat × Nat)) (m:Nat) (ps:Array Tmp) (x y:Code) (sl0:List (Nat × SV)) (v:List SV) (f:Cf P):Option (Bool × Cf P) :=
 bif Nat.beq v.length ps.size&&(v.all (SV.of fun _=>false)&&ps.toList.all (fun p=>Nat.blt p n)) then
  match runI P m0 n Ns m (some x) [] { f with sl:=setPs sl0 ps.toList v } with
  | some (.ended false f1)=>bif f1.ob.all obClB then (match runI P m0 n Ns m (some y) [] f1 with
   | some (.ended b f2)=>some (b,{ f2 with sl:=sl0 })
   | _=>none) else none
  | _=>none
 else none
def rangeE (P:Program) (fn:Func) (m0 n:Nat) (Ns:List (Nat × Nat)) (m:Nat) (res:SV) (need:List (Nat × Ob)) (ps:Array Tmp) (x y:Code) (ks:List Kf) (sl0:List (Nat × SV)):List (List SV)→Cf P→Env→Eqs
 | [],f,β=>(bif f.ob.all obClB then [] else Eqs.no)++(needEqs f.q f.ob need++(match runI P m0 n Ns m none ks f with
  | some (.ended _ fB)=>(bif fB.ob.all obClB then [] else Eqs.no)++fin1 P fn m0 n res [] fB β
  | _=>Eqs.no))
 | v::r,f,β=>(bif f.ob.all obClB then [] else Eqs.no)++(needEqs f.q f.ob need++(match roundS P m0 n Ns m ps x y sl0 v f with
  | some (false,f')=>rangeE P fn m0 n Ns m res need ps x y ks sl0 r f' β
  | some (true,f')=>(bif f'.ob.all obClB then [] else Eqs.no)++fin1 P fn m0 n res [] f' β
  | none=>Eqs.no))
def allX (P:Program) (fn:Func) (args:List SV) (obs:List Ob) (evs:List (Ev P)) (Ns:List (Nat × Nat)) (m:Nat) (res:SV) (need:List (Nat × Ob)) (vs:List (List SV)) (gf:Nat) (lb:Env→Array Value) (β:Env):Eqs :=
 match fn.body with
 | some c=>match runI P obs.length (sizeS fn args) Ns m (some c) [] ⟨startS args 0,fun k=>Nat.blt k obs.length,obs,evs,[]⟩ with
  | some (.range g ps x y ks f)=>(bif need.all (fun p=>Nat.blt p.1 f.ob.length&&p.2.of (fun k=>Nat.blt k f.ob.length)) then [] else Eqs.no) ++
    ((.v (evS β f.sl g),.v (.func (.func gf) #[] (lb β)))::rangeE P fn obs.length (sizeS fn args) Ns m res need ps x y ks f.sl vs f β)
  | _=>Eqs.no
 | none=>Eqs.no
theorem all_cl {f:List Ob} (h:f.all obClB=true) {q:Nat→Bool}:∀ k x,q k=true→f[k]?=some x→obClB x=true:=fun k x _ hx=>List.all_eq_true.1 h x (List.mem_of_getElem? hx)
theorem keeps_from {k m0 B:Nat} {w w' w0:World} {B0:Bd} {ex:Nat→Bool} {obj:Nat→Option Ob} {β:Env} {df:List Deferred} (hg:Good B0 m0 w0 ex obj β w) (hC:∀ k x,ex k=true→obj k=some x→obClB x=true) (h:Keep (bdR k w m0 ex obj β df) w w'):KeepsFrom B w w' :=
 ⟨h.size,fun i o _ hi ho=>(h.block i (heap_lt hi) fun ⟨j,x,h1,h2,h3,h4,h5⟩=>by
  have hh:=(hg.hold j x h1 h3).1
  have hc:=hC j x h1 h3
  subst h5
  cases x with
  | box cs t=>rw [hh.2] at hi; cases hi; cases ho
  | row cs t n sz=>rw [hh.2.choose_spec.1] at hi; cases hi; cases ho
  | pl n=>obtain ⟨cs,t,k1,_⟩:=hh.2; rw [k1] at hi; cases hi; cases ho
  | ow D t=>cases hc
  | th t=>cases h4
  | al r t=>cases h4
  | dead=>cases h4).trans hi⟩
theorem setPs_ok {β:Env} {n:Nat}:∀ (ps:List Nat) (v:List SV) (sl:List (Nat × SV)) (a:Act),ps.length=v.length→ps.all (fun p=>Nat.blt p n)=true→SlOk β a sl n →
  SlOk β { a with tmps:=(ps.zip (v.map (SV.den β))).foldl (fun t (p,v)=>t.setIfInBounds p v) a.tmps } (setPs sl ps v) n
 | [],[],sl,a,_,_,h=>h
 | [],_::_,_,_,h,_,_=>by simp at h
 | _::_,[],_,_,h,_,_=>by simp at h
 | p::ps,x::v,sl,a,hl,hp,h=>by
  rw [List.all_cons,Bool.and_eq_true] at hp
  have h1:=h.put (d:=some p) hp.1 x rfl
  exact setPs_ok ps v _ _ (by simpa using hl) hp.2 h1
theorem setPs_of {q:Nat→Bool}:∀ (ps:List Nat) (v:List SV) (sl:List (Nat × SV)),v.all (SV.of fun _=>false)=true→SlOf q sl→SlOf q (setPs sl ps v)
 | [],_,_,_,h=>h
 | _::_,[],_,_,h=>h
 | p::ps,x::v,sl,hv,h=>by
  rw [List.all_cons,Bool.and_eq_true] at hv
  exact setPs_of ps v _ hv.2 (h.put _ (SV.of_mono (fun k hk=>by cases hk) _ hv.1))
theorem Sync.restart {P:Program} {m0 n:Nat} {B0:Bd} {w0:World} {f:Cf P} {β:Env} {a:Act} {w:World} (s:Sync P m0 n B0 w0 f β a w) (df:List Deferred) (a':Act) (ha:a'.tmps=a.tmps) (hd:a'.defers=df):Sync P m0 n (bdR f.ob.length w m0 f.q (fun k=>f.ob[k]?) β df) w f β a' w :=
 ⟨s.good.restart _ df,s.q,⟨by rw [ha]; exact s.sl.1,fun t=>by rw [ha]; exact s.sl.2 t⟩,s.of,⟨s.m0.1,Nat.le_refl _⟩,hd,s.uq⟩
theorem roundS_ok {P:Program} {m0 n nn l:Nat} {Ns:List (Nat × Nat)} {m:Nat} {ps:Array Tmp} {x y:Code} {sl0:List (Nat × SV)} {v:List SV} {f f':Cf P} {b:Bool} (hm:P.follows .mixedOrders=true) (h:roundS P m0 n Ns m ps x y sl0 v f=some (b,f')) (hf:f.full) (hsl:f.sl=sl0) :
  (∀ z∈f.cs,z∈f'.cs)∧f'.full∧f'.sl=sl0∧v.length=ps.size∧v.all (SV.of fun _=>false)=true∧(f'.good→f.ob.all obClB=true→∀ {B0:Bd} {w0:World} {β:Env} {a:Act} {W:World},Sync P m0 n B0 w0 f β a W→B0.df=[]→B0.k≤f.ob.length→∀ (S:Nat),(S≤l∧B0.n≤l)→(∃ o:Obj,W.heap[l]?=some o∧o.isCells=false)→∀ (I Ix:World→Prop),
   (∀ β' W',(∀ i,i<f.ob.length→β' i=β i)→Sync P m0 n B0 w0 f' β' a W'→(b=false→I W')∧(b=true→Ix W')) →
   x.wpIn (RF (some l)) nn P (Exit.then (fun a1 W1=>KeepsFrom S W W1∧∀ W2,W1.grownBy W2 (some l)→y.wpIn (RF (some l)) nn P (postR S I Ix W2) a1 W2) (fun _ _ _=>False))
    { tmps:=(ps.zip (v.map (SV.den β)).toArray).foldl (fun t (p,v)=>t.setIfInBounds p v) a.tmps,defers:=[] } W):=by
 unfold roundS at h
 rw [cond_eq_ite] at h
 split at h
 · rename_i hb
   rw [Bool.and_eq_true,Bool.and_eq_true,Nat.beq_eq] at hb
   obtain ⟨hb1,hb2,hb3⟩:=hb
   split at h
   · rename_i f1 hr1
     rw [cond_eq_ite] at h
     split at h
     · rename_i hc1
       split at h
       · rename_i b2 f2 hr2
         injection h with h
         injection h with e1 e2
         subst e1 e2
         obtain ⟨i1,i2,i3⟩:=runI_ok (l:=some l) (nn:=nn) hm _ _ _ _ _ hr1 (show Cf.full { f with sl:=setPs sl0 ps.toList v } from hf)
         obtain ⟨j1,j2,j3⟩:=runI_ok (l:=some l) (nn:=nn) hm _ _ _ _ _ hr2 i2
         refine ⟨fun z hz=>j1 z (i1 z hz),j2,rfl,hb1,hb2,fun hg hcl B0 w0 β a W s hdf hk S hS hl I Ix hI=>?_⟩
         have g1:f1.good:=fun β z hz=>hg β z (j1 z hz)
         have s0:Sync P m0 n (bdR f.ob.length W m0 f.q (fun k=>f.ob[k]?) β []) W { f with sl:=setPs sl0 ps.toList v } β { tmps:=(ps.zip (v.map (SV.den β)).toArray).foldl (fun t (p,v)=>t.setIfInBounds p v) a.tmps,defers:=[] } W:=by
          refine ⟨s.good.restart _ [],s.q,?_,?_,⟨s.m0.1,Nat.le_refl _⟩,rfl,s.uq⟩
          · have:=setPs_ok (β:=β) (n:=n) ps.toList v sl0 { tmps:=a.tmps,defers:=[] } (by rw [hb1]; simp) hb3 (by rw [← hsl]; exact ⟨s.sl.1,s.sl.2⟩)
            rw [← Array.foldl_toList,Array.toList_zip]
            exact this
          · exact setPs_of _ _ _ hb2 (by rw [← hsl]; exact s.of)
         refine i3 g1 s0 _ (fun ⟨_,_,h⟩=>h.elim) fun β1 a1 W1 e1 s1=>?_
         have hkf:KeepsFrom S W W1:=keeps_from s.good (all_cl hcl) s1.good.bel
         refine ⟨hkf,fun W2 hgr=>?_⟩
         obtain ⟨o,ho1,ho2⟩:=hl
         have ho3:=hkf.same l o hS.1 ho1 ho2
         have hlt:l<W.heap.size:=heap_lt ho1
         have gb:=Good.back s.good s1.good fun i hi=>e1 i (Nat.lt_of_lt_of_le hi s.m0.1)
         have g2:Good B0 m0 w0 f1.q (fun k=>f1.ob[k]?) β1 W2:=gb.grown (all_cl hc1) hgr fun r e=>by cases e; exact ⟨hS.2,o,ho3,ho2⟩
         have hlen1:f.ob.length≤f1.ob.length:=s1.m0.2
         have s2:Sync P m0 n (bdR f1.ob.length W2 m0 f1.q (fun k=>f1.ob[k]?) β1 []) W2 f1 β1 a1 W2:=⟨g2.restart _ [],s1.q,s1.sl,s1.of,⟨s1.m0.1,Nat.le_refl _⟩,s1.defers,s1.uq⟩
         refine j3 hg s2 _ postR_out fun β2 a2 W3 e2 s3=>?_
         have hkf2:KeepsFrom S W2 W3:=keeps_from g2 (all_cl hc1) s3.good.bel
         have gb2:=Good.back g2 s3.good fun i hi=>e2 i (Nat.lt_of_lt_of_le hi s1.m0.1)
         have hlen2:f1.ob.length≤f2.ob.length:=s3.m0.2
         have he:∀ i,i<f.ob.length→β2 i=β i:=fun i hi=>(e2 i (Nat.lt_of_lt_of_le hi hlen1)).trans (e1 i hi)
         have sE:Sync P m0 n B0 w0 { f2 with sl:=sl0 } β2 a W3:=by
          refine ⟨gb2,s3.q,?_,fun t=>?_,⟨s3.m0.1,by show B0.k≤f2.ob.length; omega⟩,s.defers,s3.uq⟩
          · have:=s.sl.congr (β':=β2) s.of fun k hk=>(he k ((s.q k).1 hk)).symm
            rw [hsl] at this
            exact this
          · have:=s.of t
            rw [hsl] at this
            exact SV.of_mono (fun k hk=>(s3.q k).2 (by have:=(s.q k).1 hk; show k<f2.ob.length; omega)) _ this
         obtain ⟨k1,k2⟩:=hI β2 W3 he sE
         cases b2 with
         | false=>exact ⟨hkf2,k1 rfl⟩
         | true=>exact ⟨hkf2,k2 rfl⟩
       · cases h
     · cases h
   · cases h
 · cases h
end Go.Proofs.YtdiemgedlfnlmaaGreat.Y
end
