/- SyS, Gy, EyA, RefA, RefC. -/
import Derived.BigQuiet
import Derived.Deep.QuietTactic
import Derived.Test.YthkpghhoffihmaaGreatDoorGk8
set_option linter.unnecessarySimpa false
set_option linter.unusedVariables false
set_option linter.unusedSimpArgs false
section
namespace Go.Proofs.YthkpghhoffihmaaGreatDoor.Y
open Go Go.RowKit
def Lf0.ren (ρ:Nat→Nat):Lf0→Lf0
 | .v x=>.v x
 | .p k o=>.p (ρ k) o
 | .s k o n c=>.s (ρ k) o n c
 | .z k i=>.z (ρ k) i
 | .y k i n=>.y (ρ k) i n
 | .r k n=>.r (ρ k) n
 | .gh k i=>.gh (ρ k) i
def Lf.ren (ρ:Nat→Nat):Lf→Lf
 | .b l=>.b (l.ren ρ)
 | .f fn x y=>.f fn (x.map (Lf0.ren ρ)) (y.map (Lf0.ren ρ))
def SC.ren (ρ:Nat→Nat):SC→SC
 | .c l=>.c (l.ren ρ)
 | .a ls=>.a (ls.map (Lf.ren ρ))
def SV.ren (ρ:Nat→Nat):SV→SV
 | .one x=>.one (x.ren ρ)
 | .tup xs=>.tup (xs.map (SC.ren ρ))
theorem Lf0.den_ren (β:Env) (ρ:Nat→Nat) (x:Lf0):(x.ren ρ).den β=x.den (fun k=>β (ρ k)):=by cases x<;>rfl
theorem Lf.den_ren (β:Env) (ρ:Nat→Nat) (x:Lf):(x.ren ρ).den β=x.den (fun k=>β (ρ k)):=by
 cases x with
 | b l=>exact Lf0.den_ren β ρ l
 | f fn x y=>simp only [Lf.ren,Lf.den,List.map_map,Function.comp_def,Lf0.den_ren]
theorem SC.den_ren (β:Env) (ρ:Nat→Nat) (x:SC):(x.ren ρ).den β=x.den (fun k=>β (ρ k)):=by
 cases x with
 | c l=>exact Lf.den_ren β ρ l
 | a ls=>simp only [SC.ren,SC.den,List.map_map,Function.comp_def,Lf.den_ren]
theorem SV.den_ren (β:Env) (ρ:Nat→Nat) (x:SV):(x.ren ρ).den β=x.den (fun k=>β (ρ k)):=by
 cases x with
 | one y=>exact SC.den_ren β ρ y
 | tup xs=>simp only [SV.ren,SV.den,List.map_map,Function.comp_def,SC.den_ren]
theorem all_both {α:Type} {f g h:α→Bool} {l:List α} (hf:l.all f=true) (hg:l.all g=true) (hh:∀ x,f x=true→g x=true→h x=true):l.all h=true :=
 List.all_eq_true.2 fun x hx=>hh x (List.all_eq_true.1 hf x hx) (List.all_eq_true.1 hg x hx)
theorem Lf0.of_and {q q':Nat→Bool}:∀ x:Lf0,x.of q=true→x.of q'=true→x.of (fun k=>q k&&q' k)=true
 | .v _,_,_=>rfl
 | .p _ _,h,k=>Bool.and_eq_true_iff.2 ⟨h,k⟩
 | .s _ _ _ _,h,k=>Bool.and_eq_true_iff.2 ⟨h,k⟩
 | .z _ _,h,k=>Bool.and_eq_true_iff.2 ⟨h,k⟩
 | .y _ _ _,h,k=>Bool.and_eq_true_iff.2 ⟨h,k⟩
 | .r _ _,h,k=>Bool.and_eq_true_iff.2 ⟨h,k⟩
 | .gh _ _,h,k=>Bool.and_eq_true_iff.2 ⟨h,k⟩
theorem Lf.of_and {q q':Nat→Bool}:∀ x:Lf,x.of q=true→x.of q'=true→x.of (fun k=>q k&&q' k)=true
 | .b l,h,k=>Lf0.of_and l h k
 | .f _ x y,h,k=>by
  unfold Lf.of at h k ⊢
  rw [Bool.and_eq_true] at h k ⊢
  exact ⟨all_both h.1 k.1 Lf0.of_and,all_both h.2 k.2 Lf0.of_and⟩
theorem SC.of_and {q q':Nat→Bool}:∀ x:SC,x.of q=true→x.of q'=true→x.of (fun k=>q k&&q' k)=true
 | .c l,h,k=>Lf.of_and l h k
 | .a _,h,k=>all_both h k Lf.of_and
theorem SV.of_and {q q':Nat→Bool}:∀ x:SV,x.of q=true→x.of q'=true→x.of (fun k=>q k&&q' k)=true
 | .one x,h,k=>SC.of_and x h k
 | .tup _,h,k=>all_both h k SC.of_and
def freshS (β:Env) (w:World) (m:Nat) (xs:List Pl):Prop:=∀ x∈xs,∀ c,x.F c→w.heap.size≤c∨∃ i,i<m∧(β i).F c
structure Spec (P:Program) where
 f:FuncId
 en:Enters P f
 args:List SV
 obs:List Thing
 res:SV
 news:List Thing
 ok:∀ β w,(∀ (k:Nat) (t:Thing),obs[k]?=some t→t.D w (β k))→Calls P f (args.map (SV.den β)).toArray w fun e w'=>∃ xs:List Pl,freshS β w obs.length xs∧e=.returned (res.den (extE β obs.length xs))∧newHold w' news xs∧Below w.heap.size w w'
 closed:(args.all (SV.of fun k=>Nat.blt k obs.length)&&res.of fun k=>Nat.blt k (obs.length+news.length))=true
def atS (σ:List Nat) (m n k:Nat):Nat:=lit (bif Nat.blt k m then σ.getD k 0 else n+(k-m)) fun j=>j
def atN (β:Env) (j:Nat):Pl:=bif Nat.beq j 2000000 then nilPl else β j
def needsOf (σ:List Nat):List Thing→Nat→List (Nat × Ob)
 | [],_=>[]
 | t::r,k=>lit (σ.getD k 0) fun j=>bif Nat.beq j 2000000 then needsOf σ r (k+1) else (j,t.ob)::needsOf σ r (k+1)
def okS (σ:List Nat) (n:Nat):List Thing→Nat→Bool
 | [],_=>true
 | t::r,k=>(bif Nat.beq (σ.getD k 0) 2000000 then t.nl else Nat.blt (σ.getD k 0) n)&&okS σ n r (k+1)
theorem needsOf_hold {β:Env} {w:World} {σ:List Nat} {n:Nat}:∀ {l:List Thing} {i:Nat},holdsAll β w (needsOf σ l i)→okS σ n l i=true→∀ (k:Nat) (t:Thing),l[k]?=some t→t.D w (atN β (σ.getD (i+k) 0))
 | [],_,_,_,k,t,h=>by simp at h
 | x::r,i,h,ho,k,t,hk=>by
  unfold okS at ho
  rw [Bool.and_eq_true] at ho
  unfold needsOf at h
  rw [lit_eq] at h
  cases hb:Nat.beq (σ.getD i 0) 2000000 with
  | true =>
   rw [hb,cond_true] at h
   rw [hb,cond_true] at ho
   cases k with
   | zero =>
    simp only [List.getElem?_cons_zero] at hk
    obtain rfl:=Option.some.inj hk
    unfold atN
    rw [Nat.add_zero,hb,cond_true]
    exact x.nlok ho.1 w
   | succ k =>
    have:=needsOf_hold (l:=r) (i:=i+1) h ho.2 k t (by simpa using hk)
    rw [show i+(k+1)=i+1+k by omega]
    exact this
  | false =>
   rw [hb,cond_false] at h
   cases k with
   | zero =>
    simp only [List.getElem?_cons_zero] at hk
    obtain rfl:=Option.some.inj hk
    unfold atN
    rw [Nat.add_zero,hb,cond_false]
    exact h _ (List.mem_cons_self ..)
   | succ k =>
    have:=needsOf_hold (l:=r) (i:=i+1) (fun p hp=>h p (List.mem_cons_of_mem _ hp)) ho.2 k t (by simpa using hk)
    rw [show i+(k+1)=i+1+k by omega]
    exact this
theorem needsOf_mem {σ:List Nat}:∀ {l:List Thing} {k i:Nat},i<l.length→Nat.beq (σ.getD (k+i) 0) 2000000=false→∃ t:Thing,(σ.getD (k+i) 0,t.ob)∈needsOf σ l k
 | t::r,k,0,_,hb=>⟨t,by
  rw [Nat.add_zero] at hb
  unfold needsOf
  rw [lit_eq,hb,cond_false]
  exact List.mem_cons_self ..⟩
 | t::r,k,i+1,h,hb=>by
  obtain ⟨u,hu⟩:=needsOf_mem (σ:=σ) (l:=r) (k:=k+1) (i:=i) (by simpa using h) (by rw [← hb,show k+1+i=k+(i+1) by omega])
  refine ⟨u,?_⟩
  unfold needsOf
  rw [show k+(i+1)=k+1+i by omega,lit_eq]
  cases Nat.beq (σ.getD k 0) 2000000
  · exact List.mem_cons_of_mem _ hu
  · exact hu
theorem okS_at {σ:List Nat} {n:Nat}:∀ {l:List Thing} {k i:Nat},okS σ n l k=true→i<l.length→Nat.beq (σ.getD (k+i) 0) 2000000=false→σ.getD (k+i) 0<n
 | t::r,k,0,h,_,hb=>by
  unfold okS at h
  rw [Nat.add_zero] at hb ⊢
  rw [Bool.and_eq_true,hb,cond_false,Nat.blt_eq] at h
  exact h.1
 | t::r,k,i+1,h,hi,hb=>by
  unfold okS at h
  rw [Bool.and_eq_true] at h
  rw [show k+(i+1)=k+1+i by omega] at hb ⊢
  exact okS_at h.2 (by simpa using hi) hb
def Spec.ev {P:Program} (S:Spec P) (σ:List Nat) (n:Nat) (hσ:(okS σ n S.obs 0&&S.res.of fun k=>!(Nat.blt k S.obs.length&&Nat.beq (σ.getD k 0) 2000000))=true):Ev P :=
 .call S.f S.en (fun β=>(S.args.map (SV.den fun k=>atN β (atS σ S.obs.length n k))).toArray) (needsOf σ S.obs 0) n (S.res.ren (atS σ S.obs.length n)) S.news fun β w h=>by
  have hc:=S.closed
  rw [Bool.and_eq_true] at hc hσ
  have hat:∀ k,k<S.obs.length→atS σ S.obs.length n k=σ.getD k 0:=fun k hk=>by
   unfold atS
   rw [lit_eq,show Nat.blt k S.obs.length=true by rw [Nat.blt_eq]; exact hk,cond_true]
  have hat2:∀ k,¬ k<S.obs.length→atS σ S.obs.length n k=n+(k-S.obs.length):=fun k hk=>by
   unfold atS
   rw [lit_eq,show Nat.blt k S.obs.length=false by rw [Bool.eq_false_iff,ne_eq,Nat.blt_eq]; exact hk,cond_false]
  have hargs:S.args.map (SV.den fun k=>atN β (atS σ S.obs.length n k))=S.args.map (SV.den fun k=>atN β (σ.getD k 0)):=List.map_congr_left fun x hx=>SV.den_congr (fun k hk=>by rw [hat k (by simpa [Nat.blt_eq] using hk)]) _ (List.all_eq_true.1 hc.1 x hx)
  rw [hargs]
  refine (S.ok (fun k=>atN β (σ.getD k 0)) w fun k t hk=>?_).mono ?_
  · have:=needsOf_hold h hσ.1 k t hk
    rwa [Nat.zero_add] at this
  · rintro e w' ⟨xs,h1,rfl,h3,h4⟩
    refine ⟨xs,fun x hx c hc=>?_,?_,h3,h4⟩
    · rcases h1 x hx c hc with h5 | ⟨i,i1,i2⟩
      · exact .inl h5
      refine .inr ?_
      unfold atN at i2
      dsimp only at i2
      cases hb:Nat.beq (σ.getD i 0) 2000000 with
      | true =>
       rw [hb] at i2
       exact i2.elim
      | false =>
       rw [hb] at i2
       obtain ⟨t,ht⟩:=needsOf_mem (σ:=σ) (l:=S.obs) (k:=0) i1 (by rw [Nat.zero_add]; exact hb)
       rw [Nat.zero_add] at ht
       exact ⟨_,ht,rfl,i2⟩
    rw [SV.den_ren]
    congr 1
    have hboth:S.res.of (fun k=>Nat.blt k (S.obs.length+S.news.length)&&!(Nat.blt k S.obs.length&&Nat.beq (σ.getD k 0) 2000000))=true:=SV.of_and _ hc.2 hσ.2
    refine SV.den_congr (fun k hk=>?_) _ hboth
    have hlen:=(newHold_get h3).1
    rw [Bool.and_eq_true,Nat.blt_eq] at hk
    by_cases hk2:k<S.obs.length
    · have hb:Nat.beq (σ.getD k 0) 2000000=false:=by
       have:=hk.2
       rw [show Nat.blt k S.obs.length=true by rw [Nat.blt_eq]; exact hk2,Bool.true_and] at this
       cases h5:Nat.beq (σ.getD k 0) 2000000 with
       | false=>rfl
       | true=>rw [h5] at this; cases this
      have hlt:=okS_at (k:=0) hσ.1 hk2 (by rw [Nat.zero_add]; exact hb)
      rw [Nat.zero_add] at hlt
      rw [hat k hk2,extE_out (β:=β) (n:=n) (k:=σ.getD k 0) (xs:=xs) (by omega),extE_out (n:=S.obs.length) (k:=k) (xs:=xs) (by omega)]
      unfold atN
      rw [hb,cond_false]
    · rw [hat2 k hk2]
      have h5:k-S.obs.length<xs.length:=by omega
      rw [extE_in (List.getElem?_eq_getElem h5)]
      have:=extE_in (β:=fun k=>atN β (σ.getD k 0)) (n:=S.obs.length) (List.getElem?_eq_getElem h5)
      rw [show S.obs.length+(k-S.obs.length)=k by omega] at this
      exact this
def mt0:Lf0→Lf0→List (Nat × Nat)
 | .p k _,.p j _=>[(k,j)]
 | .s k _ _ _,.s j _ _ _=>[(k,j)]
 | .z k _,.z j _=>[(k,j)]
 | .y k _ _,.y j _ _=>[(k,j)]
 | .r k _,.r j _=>[(k,j)]
 | .z k _,.p j _=>[(k,j)]
 | .z k _,.v (.pointer none)=>[(k,2000000)]
 | _,_=>[]
def mtL0:List Lf0→List Lf0→List (Nat × Nat)
 | x::r,y::s=>mt0 x y++mtL0 r s
 | _,_=>[]
def mtL:Lf→Lf→List (Nat × Nat)
 | .b x,.b y=>mt0 x y
 | .f _ a b,.f _ c d=>mtL0 a c++mtL0 b d
 | _,_=>[]
def mtLs:List Lf→List Lf→List (Nat × Nat)
 | x::r,y::s=>mtL x y++mtLs r s
 | _,_=>[]
def mtC:SC→SC→List (Nat × Nat)
 | .c x,.c y=>mtL x y
 | .a x,.a y=>mtLs x y
 | _,_=>[]
def mtV:SV→SV→List (Nat × Nat)
 | .one x,.one y=>mtC x y
 | _,_=>[]
def mtVs:List SV→List SV→List (Nat × Nat)
 | x::r,y::s=>mtV x y++mtVs r s
 | _,_=>[]
def sigM (l:List (Nat × Nat)) (k:Nat):Nat:=match l with
 | []=>0
 | (i,j)::r=>bif Nat.beq i k then j else sigM r k
def sigL (l:List (Nat × Nat)) (k:Nat):Nat→List Nat
 | 0=>[]
 | m+1=>lit (sigM l k) (fun j=>j::sigL l (k+1) m)
def isCallB (o:Oper):Bool:=match o.op with
 | .call ⟨.value _,_,_⟩=>true
 | _=>false
def Spec.e {P:Program} (S:Spec P):Ev P:=.dyn (fun o _ _=>isCallB o) fun _ xs ob =>
 lit ob.length fun n=>if h:(okS (sigL (mtVs S.args xs) 0 S.obs.length) n S.obs 0&&S.res.of fun k=>!(Nat.blt k S.obs.length&&Nat.beq ((sigL (mtVs S.args xs) 0 S.obs.length).getD k 0) 2000000))=true then S.ev (sigL (mtVs S.args xs) 0 S.obs.length) n h else .eqv 0 undef undef rfl
def ptOf:SV→Nat
 | .one (.c (.b (.p k _)))=>k
 | .one (.c (.b (.z k _)))=>k
 | _=>0
def dyn1 {P:Program} (f:Nat→Nat→Ev P):Ev P:=.dyn (fun o _ _=>isCallB o) fun _ xs ob=>lit ob.length fun n=>lit (ptOf (xs.getD 0 undefS)) fun i=>f i n
def dyn2 {P:Program} (f:Nat→Nat→Nat→Ev P):Ev P:=.dyn (fun o _ _=>isCallB o) fun _ xs ob=>lit ob.length fun n=>lit (ptOf (xs.getD 0 undefS)) fun i=>lit (ptOf (xs.getD 1 undefS)) fun k=>f i n k
def dyn3 {P:Program} (f:Nat→Nat→Nat→Nat→Ev P):Ev P:=.dyn (fun o _ _=>isCallB o) fun _ xs ob=>lit ob.length fun n=>lit (ptOf (xs.getD 0 undefS)) fun i=>lit (ptOf (xs.getD 1 undefS)) fun k=>lit (ptOf (xs.getD 2 undefS)) fun j=>f i n k j
def dynMk {P:Program} (t:TypeId) (N:Nat):Ev P:=.dyn (fun o _ _=>match o.op with
 | .alloc t'=>Nat.beq t' t
 | _=>false) fun o _ _=>.mk (o.dst.getD 0) N
def backS (m:Nat) (idx:List Nat) (k:Nat):Nat:=lit (bif Nat.blt k m then k else idx.getD (k-m) 0) fun j=>j
def specS (P:Program) (fn:Func) (args:List SV) (obs:List Thing) (evs:List (Ev P)) (Ns:List (Nat × Nat)) (m:Nat) (res:SV) (news:List Thing) (idx:List Nat) (β:Env):Eqs :=
 allS P fn args (obs.map Thing.ob) evs Ns m (res.ren (backS obs.length idx)) (idx.zip (news.map Thing.ob)) β
theorem newHold_of {β:Env} {w:World}:∀ {idx:List Nat} {l:List Thing},idx.length=l.length→holdsAll β w (idx.zip (l.map Thing.ob))→newHold w l (idx.map β)
 | [],[],_,_=>trivial
 | [],_::_,h,_=>by simp at h
 | _::_,[],h,_=>by simp at h
 | i::r,t::l,h,k=>⟨k (i,t.ob) (by simp),newHold_of (by simpa using h) fun p hp=>k p (by simp only [List.map_cons,List.zip_cons_cons]; exact List.mem_cons_of_mem _ hp)⟩
def specB (args:List SV) (obs:List Thing) (res:SV) (news:List Thing) (idx:List Nat):Bool :=
 args.all (SV.of fun k=>Nat.blt k obs.length)&&(res.of fun k=>Nat.blt k (obs.length+news.length))&&Nat.beq idx.length news.length
theorem spec_ok {P:Program} {f:FuncId} {fn:Func} {args:List SV} {obs:List Thing} {evs:List (Ev P)} {Ns:List (Nat × Nat)} {m:Nat} {res:SV} {news:List Thing} {idx:List Nat} (hf:P.funcs[f]?=some fn) (hm:P.follows .mixedOrders=true)
  (h:∀ β,(specS P fn args obs evs Ns m res news idx β).map Prod.fst=(specS P fn args obs evs Ns m res news idx β).map Prod.snd) (hB:specB args obs res news idx=true) (β:Env) (w:World) (hh:∀ (k:Nat) (t:Thing),obs[k]?=some t→t.D w (β k)) :
  Calls P f (args.map (SV.den β)).toArray w fun e w'=>∃ xs:List Pl,freshS β w obs.length xs∧e=.returned (res.den (extE β obs.length xs))∧newHold w' news xs∧Below w.heap.size w w':=by
 simp only [specB,Bool.and_eq_true,Nat.beq_eq] at hB
 obtain ⟨⟨h1,h2⟩,h3⟩:=hB
 have hget:∀ (k:Nat) (o:Ob),(obs.map Thing.ob)[k]?=some o→∃ t,obs[k]?=some t∧o=t.ob:=fun k o ho=>by
  rw [List.getElem?_map] at ho
  cases hx:obs[k]? with
  | none=>rw [hx] at ho; cases ho
  | some t=>rw [hx] at ho; exact ⟨t,rfl,(Option.some.inj ho).symm⟩
 refine (sx (P:=P) args (obs.map Thing.ob) evs Ns m (res.ren (backS obs.length idx)) (idx.zip (news.map Thing.ob)) hf hm (fun β=>ok_of_maps (h β)) (by rw [List.length_map]; exact h1)
  (List.all_eq_true.2 fun x hx=>by obtain ⟨t,_,rfl⟩:=List.mem_map.1 hx; rfl) β w (fun k o ho=>?_)).mono ?_
 · obtain ⟨t,ht,rfl⟩:=hget k o ho
   exact hh k t ht
 · rintro e w' ⟨β',q,obj,e1,rfl,e2,e4,e5,g⟩
   rw [List.length_map] at e1
   have hz:(idx.zip (news.map Thing.ob)).map (fun p=>β' p.1)=idx.map β':=by
    rw [show (fun p:Nat × Ob=>β' p.1)=β' ∘ Prod.fst from rfl,← List.map_map,List.map_fst_zip (by rw [List.length_map]; omega)]
   refine ⟨idx.map β',fun x hx=>?_,?_,newHold_of h3 e5,g.bel⟩
   · rw [← hz] at hx
     obtain ⟨p,hp,rfl⟩:=List.mem_map.1 hx
     have:=e4 p hp
     rw [List.length_map] at this
     exact this
   · rw [SV.den_ren]
     congr 1
     refine SV.den_congr (fun k hk=>?_) _ h2
     rw [Nat.blt_eq] at hk
     unfold backS
     rw [lit_eq]
     by_cases hk2:k<obs.length
     · rw [show Nat.blt k obs.length=true by rw [Nat.blt_eq]; exact hk2,cond_true,extE_out (by omega)]
       exact e1 k hk2
     · rw [show Nat.blt k obs.length=false by rw [Bool.eq_false_iff,ne_eq,Nat.blt_eq]; exact hk2,cond_false]
       have h5:k-obs.length<idx.length:=by omega
       have:=extE_in (β:=β) (n:=obs.length) (xs:=idx.map β') (i:=k-obs.length) (x:=β' idx[k-obs.length]) (by simp [h5])
       rw [show obs.length+(k-obs.length)=k by omega] at this
       rw [this,List.getD_eq_getElem?_getD,List.getElem?_eq_getElem h5,Option.getD_some]
def mtCs:List SC→List SC→List (Nat × Nat)
 | x::r,y::s=>mtC x y++mtCs r s
 | _,_=>[]
def mtR:SV→SV→List (Nat × Nat)
 | .one x,.one y=>mtC x y
 | .tup xs,.tup ys=>mtCs xs ys
 | _,_=>[]
def lits {α:Type}:List Nat→(List Nat→α)→α
 | [],k=>k []
 | a::r,k=>lit a fun b=>lits r fun s=>k (b::s)
theorem lits_eq {α:Type}:∀ (l:List Nat) (k:List Nat→α),lits l k=k l
 | [],_=>rfl
 | a::r,k=>by unfold lits; rw [lit_eq,lits_eq r]
theorem sigL_len (l:List (Nat × Nat)):∀ (m k:Nat),(sigL l k m).length=m
 | 0,_=>rfl
 | m+1,k=>by unfold sigL; rw [lit_eq,List.length_cons,sigL_len l m]
def idxM (P:Program) (fn:Func) (args:List SV) (obs:List Thing) (evs:List (Ev P)) (Ns:List (Nat × Nat)) (m:Nat) (res:SV):List (Nat × Nat) :=
 match fn.body with
 | some c=>match fullS P fn args (obs.map Thing.ob) evs Ns m c with
  | some f=>match run1 P obs.length false (results fn (tmpsS idE f.sl (sizeS fn args))) f.q f.ob [] with
   | some ⟨v,_,_,_⟩=>mtR res (tag v)
   | none=>[]
  | none=>[]
 | none=>[]
def specA (P:Program) (fn:Func) (args:List SV) (obs:List Thing) (evs:List (Ev P)) (Ns:List (Nat × Nat)) (m:Nat) (res:SV) (news:List Thing) (β:Env):Eqs :=
 lits (sigL (idxM P fn args obs evs Ns m res) obs.length news.length) fun idx=>specS P fn args obs evs Ns m res news idx β
def specB2 (args:List SV) (obs:List Thing) (res:SV) (news:List Thing):Bool :=
 args.all (SV.of fun k=>Nat.blt k obs.length)&&res.of fun k=>Nat.blt k (obs.length+news.length)
theorem spec_auto {P:Program} {f:FuncId} {fn:Func} {args:List SV} {obs:List Thing} {evs:List (Ev P)} {Ns:List (Nat × Nat)} {m:Nat} {res:SV} {news:List Thing} (hf:P.funcs[f]?=some fn) (hm:P.follows .mixedOrders=true)
  (h:∀ β,(specA P fn args obs evs Ns m res news β).map Prod.fst=(specA P fn args obs evs Ns m res news β).map Prod.snd) (hB:specB2 args obs res news=true) (β:Env) (w:World) (hh:∀ (k:Nat) (t:Thing),obs[k]?=some t→t.D w (β k)) :
  Calls P f (args.map (SV.den β)).toArray w fun e w'=>∃ xs:List Pl,freshS β w obs.length xs∧e=.returned (res.den (extE β obs.length xs))∧newHold w' news xs∧Below w.heap.size w w' :=
 spec_ok (idx:=sigL (idxM P fn args obs evs Ns m res) obs.length news.length) hf hm (fun β=>by have:=h β; unfold specA at this; rwa [lits_eq] at this) (by
  unfold specB
  unfold specB2 at hB
  rw [hB,sigL_len,Bool.true_and]
  exact Nat.beq_refl _) β w hh
def Spec.auto {P:Program} {f:FuncId} {fn:Func} (en:Enters P f) (args:List SV) (obs:List Thing) (res:SV) (news:List Thing) (evs:List (Ev P)) (Ns:List (Nat × Nat)) (m:Nat) (hf:P.funcs[f]?=some fn) (hm:P.follows .mixedOrders=true)
  (hB:specB2 args obs res news=true) (h:∀ β,(specA P fn args obs evs Ns m res news β).map Prod.fst=(specA P fn args obs evs Ns m res news β).map Prod.snd):Spec P :=
 ⟨f,en,args,obs,res,news,spec_auto hf hm h hB,hB⟩
def At1 (g:Pl) (b:Nat):Prop:=g.v 0=some ⟨b,0,none⟩∧∀ c,g.F c↔c=b
theorem Pl.one.at1 {g:Pl} (h:g.one):At1 g g.b:=⟨h.2 0,h.1⟩
def PR (x:Rat) (w:World) (g:Pl):Prop:=∃ b,At1 g b∧RatAt w b 0 x
def OR0 (x:Rat) (w:World) (g:Pl):Prop:=(g.v 0=none∧(∀ c,¬ g.F c)∧x=0)∨PR x w g
theorem RatAt.touchN {w w':World} {b o n g i:Nat} {q:Rat} (h:RatAt w g i q) (hs:NW w b) (k:Touch w w' b o n) (hd:g≠b):RatAt w' g i q:=by
 obtain ⟨h1,h2,d,h3,h4⟩:=h
 exact ⟨h1.touch k,h2.touchN hs k (.inl hd),d,h3.touchN hs k (.inl hd),h4⟩
theorem pr_stable (x:Rat):Stable (PR x) :=
 ⟨fun w g ⟨b,h,k⟩ c hc=>by rw [(h.2 c).1 hc]; exact k.lt,fun w w' g ⟨b,h,k⟩ hb=>⟨b,h,k.on hb⟩,
  fun w w' g b o n m ⟨d,h,k⟩ hs ht hne=>⟨d,h,RatAt.touchN k hs ht fun e=>hne ((h.2 b).2 e.symm)⟩⟩
theorem or_stable (x:Rat):Stable (OR0 x) :=
 ⟨fun w g h c hc=>h.elim (fun k=>absurd hc (k.2.1 c)) fun k=>(pr_stable x).lt w g k c hc,
  fun w w' g h hb=>h.imp id fun k=>(pr_stable x).below w w' g k hb,
  fun w w' g b o n m h hs ht hne=>h.imp id fun k=>(pr_stable x).touch w w' g b o n m k hs ht hne⟩
theorem nil_or {x:Rat} (h:decide (x=0)=true) (w:World):OR0 x w nilPl:=.inl ⟨rfl,fun _ h=>h,of_decide_eq_true h⟩
theorem pr_cells {x:Rat} (w:World) (g:Pl) (h:PR x w g) (c:Nat) (hc:g.F c):∃ cs t fr,w.heap[c]?=some (.cells cs t fr):=by
 obtain ⟨b,h,k⟩:=h
 rw [(h.2 c).1 hc]
 obtain ⟨cs,t,h1,_⟩:=k.1
 exact ⟨_,_,_,h1⟩
def ratT (x:Rat):Thing:=⟨PR x,pr_stable x,1,OR0 x,or_stable x,fun _ _ h=>.inr h,false,fun h=>(Bool.noConfusion h),decide (x=0),nil_or,true,fun _=>pr_cells,true,fun _ w g h c hc=>h.elim (fun k=>absurd hc (k.2.1 c)) fun k=>pr_cells w g k c hc⟩
def ratM (x:Rat):Thing:=(ratT x).weak
theorem needP {β:Env} {w:World} {k:Nat} {x:Rat} {l:List (Nat × Ob)} (h:holdsAll β w l) (hm:(k,(ratT x).ob)∈l):PR x w (β k):=h _ hm
theorem fillP {β:Env} {i:Nat} {f:FuncId} {args:Array Value} {w:World} {x:Rat} (ho:(β i).one) (h:Calls Tryz.prog f args w fun e w'=>e=.returned (.pointer (some ⟨(β i).b,0,none⟩))∧RatAt w' (β i).b 0 x∧Touch w w' (β i).b 0 4) :
  Calls Tryz.prog f args w fun e w'=>e=.returned (.pointer (some ⟨(β i).b,0,none⟩))∧(ratT x).D w' (β i)∧Touch w w' (β i).b 0 4 :=
 h.mono fun e w' ⟨he,h1,h2⟩=>⟨he,⟨_,ho.at1,h1⟩,h2⟩
abbrev KB:Nat:=4000000000
section
variable {x y:Rat} (i n k j:Nat)
def eFAdd (hx:Sz KB x) (hy:Sz KB y):Ev Tryz.prog:=.fill 135 Tryz.call135 (fun β=>#[.pointer (some ⟨(β i).b,0,none⟩),.pointer ((β k).v 0),.pointer ((β j).v 0)]) [(k,(ratT x).ob),(j,(ratT y).ob)] i 4 n (ratT (x+y))
 (fun β w h ho hs=>by
  obtain ⟨a,ha,ka⟩:=needP (x:=x) (k:=k) h (by simp)
  obtain ⟨b,hb,kb⟩:=needP (x:=y) (k:=j) h (by simp)
  simp only [ha.1,hb.1]
  exact fillP ho (rAdd_any hs ka kb (hx.okR2 (by decide)) (hy.okR2 (by decide))))
def eFSub (hx:Sz KB x) (hy:Sz KB y):Ev Tryz.prog:=.fill 139 Tryz.call139 (fun β=>#[.pointer (some ⟨(β i).b,0,none⟩),.pointer ((β k).v 0),.pointer ((β j).v 0)]) [(k,(ratT x).ob),(j,(ratT y).ob)] i 4 n (ratT (x-y))
 (fun β w h ho hs=>by
  obtain ⟨a,ha,ka⟩:=needP (x:=x) (k:=k) h (by simp)
  obtain ⟨b,hb,kb⟩:=needP (x:=y) (k:=j) h (by simp)
  simp only [ha.1,hb.1]
  exact fillP ho (rSub_any hs ka kb (hx.okR2 (by decide)) (hy.okR2 (by decide))))
def eFMul (hx:Sz KB x) (hy:Sz KB y):Ev Tryz.prog:=.fill 136 Tryz.call136 (fun β=>#[.pointer (some ⟨(β i).b,0,none⟩),.pointer ((β k).v 0),.pointer ((β j).v 0)]) [(k,(ratT x).ob),(j,(ratT y).ob)] i 4 n (ratT (x*y))
 (fun β w h ho hs=>by
  obtain ⟨a,ha,ka⟩:=needP (x:=x) (k:=k) h (by simp)
  obtain ⟨b,hb,kb⟩:=needP (x:=y) (k:=j) h (by simp)
  simp only [ha.1,hb.1]
  exact fillP ho (rMul_any hs ka kb (hx.okR2 (by decide)) (hy.okR2 (by decide))))
def eFNeg (x:Rat):Ev Tryz.prog:=.fill 275 Tryz.call275 (fun β=>#[.pointer (some ⟨(β i).b,0,none⟩),.pointer ((β k).v 0)]) [(k,(ratT x).ob)] i 4 n (ratT (-x))
 (fun β w h ho hs=>by
  obtain ⟨a,ha,ka⟩:=needP (x:=x) (k:=k) h (by simp)
  simp only [ha.1]
  exact fillP ho (rNeg_any hs ka))
def eFInv (hx:Sz KB x) (h0:x≠0):Ev Tryz.prog:=.fill 143 Tryz.call143 (fun β=>#[.pointer (some ⟨(β i).b,0,none⟩),.pointer ((β k).v 0)]) [(k,(ratT x).ob)] i 4 n (ratT x⁻¹)
 (fun β w h ho hs=>by
  obtain ⟨a,ha,ka⟩:=needP (x:=x) (k:=k) h (by simp)
  simp only [ha.1]
  exact fillP ho (rInv_any hs ka (hx.okR2 (by decide)) h0))
end
theorem extE_z (β:Env) (n i:Nat) (g:Pl):(SV.one (.c (.b (.z n i)))).den (extE β n [g])=.pointer (g.v i):=by
 have:=extE_in (β:=β) (n:=n) (i:=0) (xs:=[g]) rfl
 rw [Nat.add_zero] at this
 simp only [SV.den,SC.den,Lf.den,Lf0.den,this]
theorem one_new {f:FuncId} {args:Array Value} {w:World} {x:Rat} (h:Calls Tryz.prog f args w fun e w'=>∃ g,e=.returned (.pointer (some ⟨g,0,none⟩))∧w.heap.size≤g∧RatAt w' g 0 x∧Below w.heap.size w w') (β:Env) (n:Nat) (l:List (Nat × Ob)) :
  Calls Tryz.prog f args w fun e w'=>∃ xs:List Pl,fresh β w l xs∧e=.returned ((SV.one (.c (.b (.z n 0)))).den (extE β n xs))∧newHold w' [ratT x] xs∧Below w.heap.size w w' :=
 h.mono fun e w' ⟨g,he,h1,h2,h3⟩=>⟨[newPl g],fun x hx c hc=>by
  obtain rfl:=List.mem_singleton.1 hx
  rw [((newPl_one g).1 c).1 hc]
  exact .inl h1,by rw [he,extE_z]; rfl,⟨⟨g,(newPl_one g).at1,h2⟩,trivial⟩,h3⟩
def eNewRat (n:Nat) (a b:Int) (ha : -9223372036854775808≤a∧a≤9223372036854775807) (hb : -9223372036854775808≤b∧b≤9223372036854775807) (h0:b≠0):Ev Tryz.prog :=
 .call 137 Tryz.call137 (fun _=>#[.int .i64 a,.int .i64 b]) [] n (.one (.c (.b (.z n 0)))) [ratT (Rat.divInt a b)] (fun β w _=>one_new (NewRat_any ha hb h0) β n _)
def eRatCmp {x y:Rat} {c:Int} (k j:Nat) (hx:Sz KB x) (hy:Sz KB y) (hc:cmpQ x y=c):Ev Tryz.prog :=
 .call 138 Tryz.call138 (fun β=>#[.pointer ((β k).v 0),.pointer ((β j).v 0)]) [(k,(ratT x).ob),(j,(ratT y).ob)] 0 (tag (.int .i64 c)) []
  (fun β w h=>by
   obtain ⟨a,ha,ka⟩:=needP (x:=x) (k:=k) h (by simp)
   obtain ⟨b,hb,kb⟩:=needP (x:=y) (k:=j) h (by simp)
   simp only [ha.1,hb.1]
   exact of_pure0 ((rCmp_any ka kb (hx.okR2 (by decide)) (hy.okR2 (by decide))).mono fun e w' ⟨he,hb⟩=>⟨by rw [he,hc],hb⟩) (fun _=>rfl))
def eRatSign {x:Rat} {c:Int} (k:Nat) (hc:x.num.sign=c):Ev Tryz.prog :=
 .call 140 Tryz.call140 (fun β=>#[.pointer ((β k).v 0)]) [(k,(ratT x).ob)] 0 (tag (.int .i64 c)) []
  (fun β w h=>by
   obtain ⟨a,ha,ka⟩:=needP (x:=x) (k:=k) h (by simp)
   simp only [ha.1]
   exact of_pure0 ((rSign_any ka).mono fun e w' ⟨he,hb⟩=>⟨by rw [he,hc],by rw [← hb]; exact Below.refl _ _⟩) (fun _=>rfl))
def PI (n:Int) (w:World) (g:Pl):Prop:=∃ b,At1 g b∧IntAt w b 0 n
theorem pi_stable (n:Int):Stable (PI n) :=
 ⟨fun w g ⟨b,h,k⟩ c hc=>by rw [(h.2 c).1 hc]; exact k.lt,fun w w' g ⟨b,h,k⟩ hb=>⟨b,h,k.on hb⟩,
  fun w w' g b o n m ⟨d,h,k⟩ hs ht hne=>⟨d,h,k.touchN hs ht (.inl fun e=>hne ((h.2 b).2 e.symm))⟩⟩
def intT (n:Int):Thing:=thingC (PI n) (pi_stable n) fun w g h c hc=>by
 obtain ⟨b,h,k⟩:=h
 rw [(h.2 c).1 hc]
 obtain ⟨cs,t,h1,_⟩:=k.1
 exact ⟨_,_,_,h1⟩
theorem needI {β:Env} {w:World} {k:Nat} {n:Int} {l:List (Nat × Ob)} (h:holdsAll β w l) (hm:(k,(intT n).ob)∈l):PI n w (β k):=h _ hm
theorem one_int {f:FuncId} {args:Array Value} {w:World} {x:Int} (h:Calls Tryz.prog f args w fun e w'=>∃ g,e=.returned (.pointer (some ⟨g,0,none⟩))∧w.heap.size≤g∧IntAt w' g 0 x∧Below w.heap.size w w') (β:Env) (n:Nat) (l:List (Nat × Ob)) :
  Calls Tryz.prog f args w fun e w'=>∃ xs:List Pl,fresh β w l xs∧e=.returned ((SV.one (.c (.b (.z n 0)))).den (extE β n xs))∧newHold w' [intT x] xs∧Below w.heap.size w w' :=
 h.mono fun e w' ⟨g,he,h1,h2,h3⟩=>⟨[newPl g],fun x hx c hc=>by
  obtain rfl:=List.mem_singleton.1 hx
  rw [((newPl_one g).1 c).1 hc]
  exact .inl h1,by rw [he,extE_z]; rfl,⟨⟨g,(newPl_one g).at1,h2⟩,trivial⟩,h3⟩
def eNum (x:Rat) (k n:Nat):Ev Tryz.prog:=.call 266 Tryz.call266 (fun β=>#[.pointer ((β k).v 0)]) [(k,(ratT x).ob)] n (.one (.c (.b (.z n 0)))) [intT x.num] (fun β w h=>by
 obtain ⟨a,ha,ka⟩:=needP (x:=x) (k:=k) h (by simp)
 simp only [ha.1]
 exact one_int (rNum_any ka) β n _)
def eDenom (x:Rat) (k n:Nat):Ev Tryz.prog:=.call 268 Tryz.call268 (fun β=>#[.pointer ((β k).v 0)]) [(k,(ratT x).ob)] n (.one (.c (.b (.z n 0)))) [intT x.den] (fun β w h=>by
 obtain ⟨a,ha,ka⟩:=needP (x:=x) (k:=k) h (by simp)
 simp only [ha.1]
 exact one_int (rDenom_any ka) β n _)
def eIntCmp {a b c:Int} (k j:Nat) (hc:cmpI a b=c):Ev Tryz.prog :=
 .call 267 Tryz.call267 (fun β=>#[.pointer ((β k).v 0),.pointer ((β j).v 0)]) [(k,(intT a).ob),(j,(intT b).ob)] 0 (tag (.int .i64 c)) []
  (fun β w h=>by
   obtain ⟨p,hp,kp⟩:=needI (n:=a) (k:=k) h (by simp)
   obtain ⟨q,hq,kq⟩:=needI (n:=b) (k:=j) h (by simp)
   simp only [hp.1,hq.1]
   exact of_pure0 ((Cmp_any kp kq).mono fun e w' ⟨he,hb⟩=>⟨by rw [he,hc],hb⟩) (fun _=>rfl))
theorem okn_sz {n:Int} (h:sz n≤KB):Okn n:=by
 have:=wl_size h
 unfold Okn
 have h2:KB=4000000000:=rfl
 omega
def eSetFrac {a b:Int} (i n k j:Nat) (h0:b≠0) (ha:sz a≤KB) (hb:sz b≤KB):Ev Tryz.prog:=.fill 223 Tryz.call223 (fun β=>#[.pointer (some ⟨(β i).b,0,none⟩),.pointer ((β k).v 0),.pointer ((β j).v 0)]) [(k,(intT a).ob),(j,(intT b).ob)] i 4 n (ratT (Rat.divInt a b))
 (fun β w h ho hs=>by
  obtain ⟨p,hp,kp⟩:=needI (n:=a) (k:=k) h (by simp)
  obtain ⟨q,hq,kq⟩:=needI (n:=b) (k:=j) h (by simp)
  simp only [hp.1,hq.1]
  exact fillP ho (SetFrac_any hs kp kq h0 (okn_sz ha) (okn_sz hb)))
section
variable {x y:Rat}
def mkR:Ev Tryz.prog:=dynMk 179 4
def fAdd (hx:Sz KB x) (hy:Sz KB y):Ev Tryz.prog:=dyn3 fun i n k j=>eFAdd i n k j hx hy
def fSub (hx:Sz KB x) (hy:Sz KB y):Ev Tryz.prog:=dyn3 fun i n k j=>eFSub i n k j hx hy
def fMul (hx:Sz KB x) (hy:Sz KB y):Ev Tryz.prog:=dyn3 fun i n k j=>eFMul i n k j hx hy
def fNeg (x:Rat):Ev Tryz.prog:=dyn2 fun i n k=>eFNeg i n k x
def fInv (hx:Sz KB x) (h0:x≠0):Ev Tryz.prog:=dyn2 fun i n k=>eFInv i n k hx h0
def fSetFrac {a b:Int} (h0:b≠0) (ha:sz a≤KB) (hb:sz b≤KB):Ev Tryz.prog:=dyn3 fun i n k j=>eSetFrac i n k j h0 ha hb
def nNew (a b:Int) (ha : -9223372036854775808≤a∧a≤9223372036854775807) (hb : -9223372036854775808≤b∧b≤9223372036854775807) (h0:b≠0):Ev Tryz.prog:=dyn1 fun _ n=>eNewRat n a b ha hb h0
def nNum (x:Rat):Ev Tryz.prog:=dyn1 fun k n=>eNum x k n
def nDenom (x:Rat):Ev Tryz.prog:=dyn1 fun k n=>eDenom x k n
def nSign {c:Int} (hc:x.num.sign=c):Ev Tryz.prog:=dyn1 fun k _=>eRatSign k hc
def nCmp {c:Int} (hx:Sz KB x) (hy:Sz KB y) (hc:cmpQ x y=c):Ev Tryz.prog:=dyn2 fun k _ j=>eRatCmp k j hx hy hc
def nIntCmp {a b c:Int} (hc:cmpI a b=c):Ev Tryz.prog:=dyn2 fun k _ j=>eIntCmp k j hc
end
end Go.Proofs.YthkpghhoffihmaaGreatDoor.Y
end
section
namespace Go.Proofs.YthkpghhoffihmaaGreatDoor.Y
open Go Go.RowKit
set_option maxRecDepth 100000
abbrev KM:Nat:=400000000
theorem sz_lit (a b:Int) (ha:a.natAbs<18446744073709551616) (hb:b.natAbs<18446744073709551616) (h0:b≠0):Sz 8 (Rat.divInt a b) :=
 sz_divInt h0 (sz_le.2 (Nat.lt_of_lt_of_le ha (by decide))) (sz_le.2 (Nat.lt_of_lt_of_le hb (by decide)))
theorem sign_zero (x:Rat):(Value.bool (x.num.sign==0))=.bool (decide (x=0)):=by
 congr 1
 rw [Bool.eq_iff_iff,beq_iff_eq,decide_eq_true_iff,Int.sign_eq_zero_iff_zero,Rat.num_eq_zero]
theorem sign_lit {x:Rat} {b:Bool} (h:decide (x=0)=b):(Value.bool (x.num.sign==0))=.bool b:=by rw [sign_zero,h]
theorem exrat_nil {w:World}:Calls Tryz.prog 260 #[.pointer none] w fun e w'=>∃ g,e=.returned (.pointer (some ⟨g,0,none⟩))∧w.heap.size≤g∧RatAt w' g 0 0∧Below w.heap.size w w':=by
 have HB:=Lib.hid (below_new w (.cells #[.bool false,.slice none 0 0,.bool false,.slice none 0 0] 179))
 have HR:=Lib.hid (RatAt.new w)
 go_enter Tryz.func260,Tryz.ntmps260
 go_wp2
 go_ret
 exact ⟨w.heap.size,rfl,Nat.le_refl _,HR.out,HB.out⟩
theorem exrat_same {w:World} {b:Nat}:Calls Tryz.prog 260 #[.pointer (some ⟨b,0,none⟩)] w fun e w'=>e=.returned (.pointer (some ⟨b,0,none⟩))∧Below w.heap.size w w':=by
 have HB:=Lib.hid (Below.refl w.heap.size w)
 go_enter Tryz.func260,Tryz.ntmps260
 go_wp2
 go_ret
 exact ⟨rfl,HB.out⟩
def sRat (x:Rat):Spec Tryz.prog :=
 ⟨260,Tryz.call260,[.one (.c (.b (.z 0 0)))],[ratM x],.one (.c (.b (.z 1 0))),[ratT x],fun β w hh=>by
  have h:OR0 x w (β 0):=hh 0 (ratM x) rfl
  show Calls _ _ #[.pointer ((β 0).v 0)] w _
  rcases h with ⟨hv,_,rfl⟩ | ⟨b,hb,hx⟩
  · rw [hv]
    refine exrat_nil.mono fun e w' ⟨g,he,h1,h2,h3⟩=>⟨[newPl g],fun x hx c hc=>?_,by rw [he]; rfl,⟨⟨g,(newPl_one g).at1,h2⟩,trivial⟩,h3⟩
    obtain rfl:=List.mem_singleton.1 hx
    rw [((newPl_one g).1 c).1 hc]
    exact .inl h1
  · rw [hb.1]
    refine exrat_same.mono fun e w' ⟨he,h3⟩=>⟨[newPl b],fun x hx c hc=>?_,by rw [he]; rfl,⟨⟨b,(newPl_one b).at1,hx.on h3⟩,trivial⟩,h3⟩
    obtain rfl:=List.mem_singleton.1 hx
    exact .inr ⟨0,Nat.zero_lt_one,(hb.2 c).2 (((newPl_one b).1 c).1 hc)⟩,by kernel_rfl⟩
abbrev nA (k:Nat):SC:=.a [.b (.z k 0),.b (.z (k+1) 0)]
abbrev nV (k:Nat):SV:=.one (nA k)
abbrev rV (k:Nat):SV:=.one (.c (.b (.z k 0)))
abbrev gM (z:GQ):List Thing:=[ratM z.re,ratM z.im]
abbrev gT (z:GQ):List Thing:=[ratT z.re,ratT z.im]
def sMulR {x:Rat} (hx:Sz KB x) {y:Rat} (hy:Sz KB y):Spec Tryz.prog :=
 Spec.auto Tryz.call261 [rV 0,rV 1] ([ratM x,ratM y]) (rV 2) ([ratT (x*y)])
  [mkR,(sRat (x)).e,(sRat (y)).e,fMul (hx.mono (by decide)) (hy.mono (by decide))]
  [] 2000 Tryz.func261 hmA (by kernel_rfl) (fun β=>by kernel_rfl)
def sAdd {z:GQ} (hz:GSz KM z) {w:GQ} (hw:GSz KM w):Spec Tryz.prog :=
 Spec.auto Tryz.call123 [nV 0,nV 2] (gM z++gM w) (nV 4) (gT (gadd z w))
  [mkR,(sRat (z.re)).e,(sRat (w.re)).e,fAdd (hz.1.mono (by decide)) (hw.1.mono (by decide)),mkR,(sRat (z.im)).e,(sRat (w.im)).e,fAdd (hz.2.mono (by decide)) (hw.2.mono (by decide))]
  [(1,17)] 2000 Tryz.func123 hmA (by kernel_rfl) (fun β=>by kernel_rfl)
def sMul {z:GQ} (hz:GSz KM z) {w:GQ} (hw:GSz KM w):Spec Tryz.prog :=
 Spec.auto Tryz.call124 [nV 0,nV 2] (gM z++gM w) (nV 4) (gT (gmul z w))
  [mkR,(sMulR (hz.1.mono (by decide)) (hw.1.mono (by decide))).e,(sMulR (hz.2.mono (by decide)) (hw.2.mono (by decide))).e,fSub ((Sz.mul hz.1 hw.1).mono (by decide)) ((Sz.mul hz.2 hw.2).mono (by decide)),mkR,(sMulR (hz.1.mono (by decide)) (hw.2.mono (by decide))).e,(sMulR (hz.2.mono (by decide)) (hw.1.mono (by decide))).e,fAdd ((Sz.mul hz.1 hw.2).mono (by decide)) ((Sz.mul hz.2 hw.1).mono (by decide))]
  [(1,25)] 2000 Tryz.func124 hmA (by kernel_rfl) (fun β=>by kernel_rfl)
def sScale {z:GQ} (hz:GSz KB z) {x:Rat} (hx:Sz KB x):Spec Tryz.prog :=
 Spec.auto Tryz.call142 [nV 0,rV 2] (gM z++[ratM x]) (nV 3) (gT (gscale z x))
  [(sMulR (hz.1.mono (by decide)) (hx.mono (by decide))).e,(sMulR (hz.2.mono (by decide)) (hx.mono (by decide))).e]
  [(1,9)] 2000 Tryz.func142 hmA (by kernel_rfl) (fun β=>by kernel_rfl)
def sNorm {z:GQ} (hz:GSz KM z):Spec Tryz.prog :=
 Spec.auto Tryz.call162 [nV 0] (gM z) (rV 2) ([ratT (gnorm z)])
  [mkR,(sMulR (hz.1.mono (by decide)) (hz.1.mono (by decide))).e,(sMulR (hz.2.mono (by decide)) (hz.2.mono (by decide))).e,fAdd ((Sz.mul hz.1 hz.1).mono (by decide)) ((Sz.mul hz.2 hz.2).mono (by decide))]
  [] 2000 Tryz.func162 hmA (by kernel_rfl) (fun β=>by kernel_rfl)
def sConj (z:GQ):Spec Tryz.prog :=
 Spec.auto Tryz.call154 [nV 0] (gM z) (nV 2) (gT (gconj z))
  [(sRat (z.re)).e,mkR,(sRat (z.im)).e,fNeg z.im]
  [(1,9)] 2000 Tryz.func154 hmA (by kernel_rfl) (fun β=>by kernel_rfl)
def sParts (z:GQ):Spec Tryz.prog :=
 Spec.auto Tryz.call161 [nV 0] (gM z) (.tup [.c (.b (.z 2 0)),.c (.b (.z 3 0))]) (gT z)
  [(sRat (z.re)).e,(sRat (z.im)).e]
  [] 2000 Tryz.func161 hmA (by kernel_rfl) (fun β=>by kernel_rfl)
theorem zero_ok {z:GQ} {b:Bool} (hb:gzero z=b) (β:Env) (w:World) (hh:∀ (k:Nat) (t:Thing),(gM z)[k]?=some t→t.D w (β k)) :
  Calls Tryz.prog 221 ([nV 0].map (SV.den β)).toArray w fun e w'=>∃ xs:List Pl,freshS β w 2 xs∧e=.returned ((SV.one (.c (.b (.v (.bool b))))).den (extE β 2 xs))∧newHold w' [] xs∧Below w.heap.size w w':=by
 cases h1:decide (z.re=0) with
 | false =>
  obtain rfl:b=false:=by rw [← hb]; unfold gzero; rw [h1]; rfl
  exact spec_auto (args:=[nV 0]) (obs:=gM z) (res:=.one (.c (.b (.v (.bool false))))) (news:=[]) (Ns:=[]) (m:=400) (evs:=[(sRat (z.re)).e,nSign (x:=z.re) rfl,.eqv 7 (.bool ((z.re).num.sign==0)) (.bool false) (sign_lit h1)]) Tryz.func221 hmA (fun β=>by kernel_rfl) (by kernel_rfl) β w hh
 | true =>
  cases h2:decide (z.im=0) with
  | false =>
   obtain rfl:b=false:=by rw [← hb]; unfold gzero; rw [h1,h2]; rfl
   exact spec_auto (args:=[nV 0]) (obs:=gM z) (res:=.one (.c (.b (.v (.bool false))))) (news:=[]) (Ns:=[]) (m:=400) (evs:=[(sRat (z.re)).e,nSign (x:=z.re) rfl,.eqv 7 (.bool ((z.re).num.sign==0)) (.bool true) (sign_lit h1),(sRat (z.im)).e,nSign (x:=z.im) rfl,.eqv 13 (.bool ((z.im).num.sign==0)) (.bool false) (sign_lit h2)]) Tryz.func221 hmA (fun β=>by kernel_rfl) (by kernel_rfl) β w hh
  | true =>
   obtain rfl:b=true:=by rw [← hb]; unfold gzero; rw [h1,h2]; rfl
   exact spec_auto (args:=[nV 0]) (obs:=gM z) (res:=.one (.c (.b (.v (.bool true))))) (news:=[]) (Ns:=[]) (m:=400) (evs:=[(sRat (z.re)).e,nSign (x:=z.re) rfl,.eqv 7 (.bool ((z.re).num.sign==0)) (.bool true) (sign_lit h1),(sRat (z.im)).e,nSign (x:=z.im) rfl,.eqv 13 (.bool ((z.im).num.sign==0)) (.bool true) (sign_lit h2)]) Tryz.func221 hmA (fun β=>by kernel_rfl) (by kernel_rfl) β w hh
def sZero {z:GQ} {b:Bool} (hb:gzero z=b):Spec Tryz.prog :=
 ⟨221,Tryz.call221,[nV 0],gM z,.one (.c (.b (.v (.bool b)))),[],zero_ok hb,by kernel_rfl⟩
def sDiv {z:GQ} (hz:GSz KM z) {w:GQ} (hw:GSz KM w) (h0:gzero w=false):Spec Tryz.prog :=
 Spec.auto Tryz.call252 [nV 0,nV 2] (gM z++gM w) (nV 4) (gT (gdiv z w))
  [(sConj w).e,(sMul (hz.mono (by decide)) ((GSz.conj hw).mono (by decide))).e,mkR,(sNorm (hw.mono (by decide))).e,fInv ((GSz.norm hw).mono (by decide)) (gnorm_ne h0),(sScale ((GSz.mul hz (GSz.conj hw)).mono (by decide)) ((Sz.inv (GSz.norm hw) (gnorm_ne h0)).mono (by decide))).e]
  [(1,9)] 2000 Tryz.func252 hmA (by kernel_rfl) (fun β=>by kernel_rfl)
end Go.Proofs.YthkpghhoffihmaaGreatDoor.Y
end
section
namespace Go.Proofs.YthkpghhoffihmaaGreatDoor
open Go.RowKit
set_option maxRecDepth 100000 in
theorem rcut_any {w:World} {A:Option Addr} {n cap:Nat} {xs:List Nat} (h:Words w (.slice A n cap) xs) :
  Calls Tryz.prog 245 #[.slice A n cap] w fun e w'=>e=.returned (.slice A (trim xs).length cap)∧w=w':=by
 have hl:=h.len.1
 have hb:=h.2.1
 have hcap:=h.len.2
 have HX:=Lib.hid h
 have HL:=Lib.hid hl
 have hbn:n≤17179869184:=by omega
 clear h hb hl
 go_enter Tryz.func245,Tryz.ntmps245
 go_wp2
 go_loop [3] (fun i=>∃ k:Nat,k≤n∧i=.int .i64 (k:Int)∧Hid (trim (xs.take k)=trim xs)) (fun i=>(intOf i).toNat)
 case atStart=>exact ⟨n,Nat.le_refl _,rfl,by rw [Hid,List.take_of_length_le (by rw [HL.out]; exact Nat.le_refl _)]⟩
 case round =>
  obtain ⟨k,hk,rfl,HT⟩:=hrel
  by_cases hk0:0<k
  · obtain ⟨b,o,rfl,hall⟩:=HX.out.open_ (by omega)
    have hc:=hall (k-1) (by have:=HL.out; omega)
    obtain ⟨x,hx⟩:∃ x,x=xs.getD (k-1) 0:=⟨_,rfl⟩
    replace hc:w.cell? ⟨b,o+(k-1),none⟩=some (.int .u32 (x:Int)):=by rw [hx]; exact hc
    have hk1:(k:Int)-1=((k-1:Nat):Int):=by omega
    have HXX:=Lib.hid hx
    have hkl:k-1<n:=by omega
    clear hall hx
    by_cases hx0:x=0
    · subst hx0
      have HT2:=Lib.hid (trim_take_pred xs k hk0 (by rw [← HL.out]; exact hk) HXX.out.symm)
      go_wp2
      go_round
      case rel=>exact ⟨k-1,by omega,by go_num,by rw [Hid,HT2.out]; exact HT.out⟩
      case measure=>simp [intOf]; omega
    · have hq:((x:Int)==0)=false:=by rw [beq_eq_false_iff_ne]; omega
      have HT2:=Lib.hid (trim_take_done xs k hk0 (by rw [← HL.out]; exact hk) (by rw [← HXX.out]; exact hx0))
      clear hx0
      go_wp2
      go_ret
      refine ⟨?_,rfl⟩
      rw [← HT.out,HT2.out]
      rfl
  · obtain rfl:k=0:=by omega
    have HT2:Hid ((trim xs).length=0):=by rw [Hid,← HT.out]; rfl
    go_wp2
    go_ret
    refine ⟨?_,rfl⟩
    rw [HT2.out]
    rfl
theorem made_byte {N k:Nat} (hk:0<k) (hN:N<256^k):(N/256^(k-1) % 256=0→N<256^(k-1))∧(N/256^(k-1) % 256≠0→(led N).length=k):=by
 obtain ⟨j,rfl⟩:∃ j,k=j+1:=⟨k-1,by omega⟩
 rw [Nat.add_sub_cancel]
 have hP:0<256^j:=Nat.pow_pos (by decide)
 have h1:N/256^j<256:=Nat.div_lt_of_lt_mul (by rw [Nat.pow_succ] at hN; exact hN)
 rw [Nat.mod_eq_of_lt h1]
 constructor
 · intro h
   rcases Nat.lt_or_ge N (256^j) with h2 | h2
   · exact h2
   · have:=Nat.div_pos h2 hP
     omega
 · intro h
   have h2:256^j≤N:=by
    rcases Nat.lt_or_ge N (256^j) with h2 | h2
    · exact absurd (Nat.div_eq_of_lt h2) h
    · exact h2
   have h3:=led_len_le N (j+1) hN
   have h4:=led_lt N
   have h5:=(Nat.pow_lt_pow_iff_right (by decide:1<256)).1 (Nat.lt_of_le_of_lt h2 h4)
   omega
theorem wholeV_sg {neg:Bool} {N:Nat} (h:N≠0):wholeV (sg neg N)=.agg #[.bool neg,.string (strN (led N).reverse)]:=by
 unfold wholeV sg
 cases neg
 · simp only [Bool.false_eq_true,if_false,Int.natAbs_natCast]
   rw [show decide ((N:Int)<0)=false by simp]
   rfl
 · simp only [if_true,Int.natAbs_neg,Int.natAbs_natCast]
   rw [show decide (-(N:Int)<0)=true by simp; omega]
   rfl
theorem wholeV_sg0 {neg:Bool}:wholeV (sg neg 0)=.agg #[.bool false,.string ⟨#[]⟩]:=by
 have h:(if neg=true then -((0:Nat):Int) else ((0:Nat):Int))=0:=by cases neg<;>rfl
 unfold wholeV sg
 rw [h]
 show Value.agg #[.bool false,.string (mag 0)]=_
 rw [mag_zero]
 rfl
set_option maxHeartbeats 1600000 in
set_option maxRecDepth 100000 in
theorem made_any {w:World} {A:Option Addr} {n cap:Nat} {xs:List Nat} (neg:Bool) (h:Words w (.slice A n cap) xs) (hn:n≤4294967296) :
  Calls Tryz.prog 230 #[.bool neg,.slice A n cap] w fun e w'=>e=.returned (wholeV (sg neg (val xs)))∧Below w.heap.size w w':=by
 have HB:=Lib.hid (below_new w (.cells #[.bool false,.string ⟨#[]⟩] 23))
 have HC:=Lib.hid (BoxAt.new w #[.bool false,.string ⟨#[]⟩] 23)
 have HX:=Lib.hid (h.below HB.out)
 have HZ:=Lib.hid (size_alloc w (.cells #[.bool false,.string ⟨#[]⟩] 23))
 obtain ⟨N,hN⟩:∃ N,N=val xs:=⟨_,rfl⟩
 have HNN:=Lib.hid hN
 have hdl:trim xs=dig N:=by rw [hN]; exact (dig_val xs h.1).symm
 have HD:=Lib.hid hdl
 obtain ⟨l,hl⟩:∃ l,l=(dig N).length:=⟨_,rfl⟩
 have HL:=Lib.hid hl
 have hln:l≤n:=by rw [hl,← hdl,h.len.1]; exact trim_length_le xs
 clear h hN hdl hl
 go_enter Tryz.func230,Tryz.ntmps230
 go_wp2_with fail
 refine (rcut_any HX.out).mono ?_
 rintro e w1 ⟨rfl,rfl⟩
 have hw:=HX.out.trim_
 rw [HD.out] at hw ⊢
 rw [← HL.out] at hw ⊢
 have HW:=Lib.hid hw
 clear hw
 by_cases hl0:l=0
 · subst hl0
   have hN0:N=0:=(dig_nil_iff N).1 (List.eq_nil_of_length_eq_zero HL.out.symm)
   have HN0:=Lib.hid hN0
   have hp0:=HC.out.cell 0 _ rfl
   have hp1:=HC.out.cell 1 _ rfl
   have hf:=HC.out.frozen
   clear hN0
   go_wp2
   have hk:=(HC.out.set 0 (.bool false)).set 1 (.string ⟨#[]⟩)
   have k0:=hk.cell 0 _ rfl
   have k1:=hk.cell 1 _ rfl
   exact bodyPost_ret (v:=.agg #[.bool false,.string ⟨#[]⟩]) (by simp [results,Tryz.results230,go_sem,k0,k1]) rfl ⟨by rw [← HNN.out,HN0.out,wholeV_sg0],by first | exact HB.out | exact (HB.out.setCell (Nat.le_refl _) _).setCell (Nat.le_refl _) _⟩
 · have hl00:((l:Int)==0)=false:=by rw [beq_eq_false_iff_ne]; omega
   have HNP:Hid (N≠0):=fun e=>hl0 (by rw [HL.out,e,dig_zero]; rfl)
   clear hl0
   go_wp2
   go_loop [5] (fun i=>∃ k:Nat,k≤4*l∧i=.int .i64 (k:Int)∧Hid (N<256^k)) (fun i=>(intOf i).toNat)
   case atStart =>
    refine ⟨4*l,Nat.le_refl _,by go_num,?_⟩
    have:=dig_lt N
    rw [← HL.out,p32] at this
    rw [Hid,p256,show 8*(4*l)=32*l by omega]
    exact this
   case round =>
    obtain ⟨k,hk,rfl,hNk⟩:=hrel
    have hk0:0<k:=by
     rcases Nat.eq_zero_or_pos k with h | h
     · subst h
       have h1:=hNk.out
       have h2:=HNP.out
       simp at h1
       exact absurd h1 h2
     · exact h
    obtain ⟨b,o,rfl,hall⟩:=HW.out.open_ (by omega)
    obtain ⟨q,hq⟩:∃ q,q=(k-1)/4:=⟨_,rfl⟩
    obtain ⟨r,hr⟩:∃ r,r=(k-1) % 4:=⟨_,rfl⟩
    obtain ⟨s,hs⟩:∃ s,s=(k-1) % 4*8:=⟨_,rfl⟩
    have hc:=hall q (by omega)
    obtain ⟨x,hx'⟩:∃ x,x=N/4294967296^q % 4294967296:=⟨_,rfl⟩
    have hx32:x<4294967296:=by rw [hx']; exact Nat.mod_lt _ (by decide)
    obtain ⟨y,hy⟩:∃ y,y=x/2^s:=⟨_,rfl⟩
    have hsh:(x:Int)/2^s=(y:Int):=by rw [hy,Int.natCast_ediv]; simp
    have hyb:y<4294967296:=by rw [hy]; exact Nat.lt_of_le_of_lt (Nat.div_le_self _ _) hx32
    have hbyte:y % 256=N/256^(k-1) % 256:=by rw [hy,hx',hq,hs]; exact byte_word N (k-1)
    have HMB:=Lib.hid (made_byte hk0 hNk.out)
    rw [← hbyte] at HMB
    have hki:(k:Int)-1=((k-1:Nat):Int):=by omega
    have hqi:((k-1:Nat):Int)/4=(q:Int):=by omega
    have hri:((k-1:Nat):Int) % 4=(r:Int):=by omega
    have hsi:8*(r:Int)=(s:Int):=by omega
    have hs24:s≤24:=by omega
    have hql:q<l:=by omega
    have hc2:(w.alloc (.cells #[.bool false,.string ⟨#[]⟩] 23)).cell? ⟨b,o+q,none⟩=some (.int .u32 (x:Int)):=by rw [hx',← dig_getD]; exact hc
    clear hall hc hx' hy hbyte hq hr hs
    by_cases hy0:y % 256=0
    · have hyi:(((y:Int) % 256)==0)=true:=by rw [beq_iff_eq]; omega
      have HK1:=Lib.hid (HMB.out.1 hy0)
      clear hy0
      go_wp2
      go_round
      case rel=>exact ⟨k-1,by omega,by go_num,HK1.out⟩
      case measure=>simp [intOf]; omega
    · have hyi:(((y:Int) % 256)==0)=false:=by rw [beq_eq_false_iff_ne]; omega
      have HM:=Lib.hid (HMB.out.2 hy0)
      clear hy0
      go_wp2_with (at_make; refine wpList_make_bytes rfl _ _ rfl _ _ _ _ k k rfl rfl (by omega) (by omega) (Nat.le_refl _) (by omega) ?_)
      intro w2 hbuf hb2 hz2
      have HZ2:=Lib.hid hz2
      have HCC:=Lib.hid HC
      clear hz2 hyi hsh hqi hri hsi hki hyb hx32 hql hc2
      obtain ⟨m,hm⟩:∃ m,m=k:=⟨_,rfl⟩
      have HSZ:Hid (w.heap.size≤(w.alloc (.cells #[.bool false,.string ⟨#[]⟩] 23)).heap.size):=HB.out.size
      go_wp2
      go_loopw [7] (fun i wr=>∃ (j:Nat),j≤k∧i=.int .i64 (j:Int)∧BBuf wr (w.heap.size+1) (List.replicate (k-j) 0++(led N).reverse.drop (k-j))∧Below (w.heap.size+1) (w.alloc (.cells #[.bool false,.string ⟨#[]⟩] 23)) wr) (fun i _=>k-(intOf i).toNat)
      case atStart =>
       exact ⟨0,by omega,rfl,by rw [Nat.sub_zero,List.drop_of_length_le (by rw [List.length_reverse,HM.out]; exact Nat.le_refl _),List.append_nil]; first | exact hbuf | (rw [HZ.out] at hbuf; exact hbuf),by first | exact hb2 | (rw [HZ.out] at hb2; exact hb2)⟩
      case round =>
       obtain ⟨j,hj,rfl,hbuf',hb'⟩:=hrel
       have hblt:=hbuf'.lt
       clear hbuf hb2 HZ2
       by_cases hj0:j<k
       · have hw3:=HW.out.below (w':=wr) (by rw [HZ.out]; exact hb')
         obtain ⟨b3,o3,e3,hall⟩:=hw3.open_ (by omega)
         cases e3
         obtain ⟨q,hq⟩:∃ q,q=j/4:=⟨_,rfl⟩
         obtain ⟨r,hr⟩:∃ r,r=j % 4:=⟨_,rfl⟩
         obtain ⟨s,hs⟩:∃ s,s=j % 4*8:=⟨_,rfl⟩
         have hc:=hall q (by omega)
         obtain ⟨x,hx'⟩:∃ x,x=N/4294967296^q % 4294967296:=⟨_,rfl⟩
         have hx32:x<4294967296:=by rw [hx']; exact Nat.mod_lt _ (by decide)
         replace hc:wr.cell? ⟨b,o+q,none⟩=some (.int .u32 (x:Int)):=by rw [hx',← dig_getD]; exact hc
         obtain ⟨y,hy⟩:∃ y,y=x/2^s:=⟨_,rfl⟩
         have hsh:(x:Int)/2^s=(y:Int):=by rw [hy,Int.natCast_ediv]; simp
         have hyb:y<4294967296:=by rw [hy]; exact Nat.lt_of_le_of_lt (Nat.div_le_self _ _) hx32
         have hbyte:y % 256=N/256^j % 256:=by rw [hy,hx',hq,hs]; exact byte_word N j
         have HBY:=Lib.hid hbyte
         have hqi:(j:Int)/4=(q:Int):=by omega
         have hri:(j:Int) % 4=(r:Int):=by omega
         have hsi:8*(r:Int)=(s:Int):=by omega
         have hs24:s≤24:=by omega
         have hql:q<l:=by omega
         have hkj:((k:Int)-1-(j:Int))=((k-1-j:Nat):Int):=by omega
         have hc2:=hbuf'.cell (k-1-j) (by rw [List.length_append,List.length_replicate]; omega)
         have hf:=hbuf'.frozen (k-1-j)
         have HBF:=Lib.hid (hbuf'.set (k-1-j) (y % 256) _ (Nat.mod_lt _ (by decide)) rfl)
         have HH:=Lib.hid hb'
         clear hall hw3 hx' hy hbyte hbuf' hb' hq hr hs
         go_wp2
         go_roundw
         case rel =>
          refine ⟨j+1,by omega,by go_num,?_,HH.out.setCell (Nat.le_refl _) _⟩
          have h:=HBF.out
          have h2:=led_back N k j HM.out hj0
          rw [← HBY.out] at h2
          rw [h2] at h
          exact h
         case measure=>simp [intOf]; omega
       · obtain rfl:j=k:=by omega
         rw [Nat.sub_self,List.replicate_zero,List.nil_append,List.drop_zero] at hbuf'
         have hcv:=string_of_byt (hbuf'.byt (n:=j) (cap:=j) (by rw [List.length_reverse]; exact HM.out))
         have HCW:Hid (BoxAt wr w.heap.size #[.bool false,.string ⟨#[]⟩] 23):=by
          have:=HC.out
          unfold BoxAt at this
          unfold Hid BoxAt
          rw [hb'.block _ (by omega)]
          exact this
         have HH:=Lib.hid (HB.out.trans (hb'.mono (Nat.le_succ _)))
         have hp0:=HCW.out.cell 0 _ rfl
         have hp1:=HCW.out.cell 1 _ rfl
         have hf:=HCW.out.frozen
         clear hbuf' hb'
         go_wp2
         have hk:=(HCW.out.set 0 (.bool neg)).set 1 (.string (strN (led N).reverse))
         have k0:=hk.cell 0 _ rfl
         have k1:=hk.cell 1 _ rfl
         exact bodyPost_ret (v:=.agg #[.bool neg,.string (strN (led N).reverse)]) (by simp [results,Tryz.results230,go_sem,k0,k1]) rfl ⟨by rw [← HNN.out,wholeV_sg HNP.out],(HH.out.setCell (Nat.le_refl _) _).setCell (Nat.le_refl _) _⟩
end Go.Proofs.YthkpghhoffihmaaGreatDoor
end
section
namespace Go.Proofs.YthkpghhoffihmaaGreatDoor
section
open Go.RowKit
theorem dig_len_bytes (n:Nat):(dig n).length=((led n).length+3)/4:=by
 refine Nat.le_antisymm (dig_len_le _ _ ?_) ?_
 · have h:=led_lt n
   rw [p256] at h
   rw [p32]
   exact Nat.lt_of_lt_of_le h (Nat.pow_le_pow_right (by decide) (by omega))
 · rcases Nat.eq_zero_or_pos n with h0 | h0
   · subst h0; rw [led_zero]; exact Nat.zero_le _
   · have h1:=led_len_pos n h0
     have h2:=dig_lt n
     rw [p256] at h1
     rw [p32] at h2
     have:=(Nat.pow_lt_pow_iff_right (by decide:1<2)).1 (Nat.lt_of_le_of_lt h1 h2)
     omega
theorem full_dig {ls:List Nat} {n:Nat} (hw:Wf ls) (hv:val ls=n) (hl:ls.length=(dig n).length):ls=dig n:=by
 have h:=dig_of ls n hw hv
 have h2:=trim_eq_take ls
 rw [h,← hl,List.take_of_length_le (Nat.le_refl _)] at h2
 exact h2.symm
theorem str_at {s:ByteArray} {n:Nat} (hs:s=mag n) (m k:Nat) (hm:m=s.size) (hk:k<m) (h:m-1-k<s.size):(s[m-1-k]'h).toNat=(led n).getD k 0:=by
 have e:leS s=led n:=by rw [hs,leS_mag]
 have h1:=leS_getD s k (by omega)
 rw [e] at h1
 rw [h1]
 subst hm
 rfl
set_option maxHeartbeats 1600000 in
set_option maxRecDepth 100000 in
theorem words_any {w:World} (s:ByteArray) (n:Nat) (hs:s=mag n) (hm:s.size≤4294967296) :
  Calls Tryz.prog 249 #[.string s] w fun e w'=>∃ A c,e=.returned (.slice A (dig n).length c)∧Words w' (.slice A (dig n).length c) (dig n)∧Below w.heap.size w w':=by
 obtain ⟨m,hms⟩:∃ m,m=s.size:=⟨_,rfl⟩
 have HN:Hid ((led n).length=m):=by rw [hms,hs,Hid,mag_size]
 have hmi:(s.size:Int)=(m:Int):=by rw [hms]
 have hmb:m≤4294967296:=by omega
 have HS:=Lib.hid hs
 have HM:=Lib.hid hms
 clear hs hms
 go_enter Tryz.func249,Tryz.ntmps249
 go_wp2_with (at_make; refine wpList_make_words rfl _ _ rfl _ _ _ _ ((m+3)/4) ((m+3)/4) rfl rfl (by omega) (by omega) (by omega) (by omega) ?_)
 intro w1 hbuf hb1 hz1
 have HZ1:=Lib.hid hz1
 clear hz1
 go_wp2
 go_loopw [4] (fun i wr=>∃ (k:Nat) (ls:List Nat),k≤m∧i=.int .i64 (k:Int)∧Hid (ls.length=(m+3)/4)∧Hid (val ls=bval ((led n).take k))∧Buf wr w.heap.size ls∧Below w.heap.size w wr) (fun i _=>m-(intOf i).toNat)
 case atStart=>exact ⟨0,List.replicate ((m+3)/4) 0,by omega,rfl,by simp [Hid],by rw [Hid,val_zeros]; rfl,hbuf,hb1⟩
 case round =>
  obtain ⟨k,ls,hk,rfl,HL,HVL,hbuf',hb'⟩:=hrel
  have hsz:=hb'.size
  have hblt:=hbuf'.lt
  clear hbuf hb1 HZ1
  by_cases hk0:k<m
  · obtain ⟨q,hq⟩:∃ q,q=k/4:=⟨_,rfl⟩
    obtain ⟨r,hr⟩:∃ r,r=k % 4:=⟨_,rfl⟩
    obtain ⟨sh,hs⟩:∃ sh,sh=k % 4*8:=⟨_,rfl⟩
    obtain ⟨x,hx⟩:∃ x,x=(led n).getD k 0:=⟨_,rfl⟩
    obtain ⟨a,ha⟩:∃ a,a=ls.getD q 0:=⟨_,rfl⟩
    obtain ⟨k1,k2,k3,k4,k5⟩:=byte_into ls (led n) k x q sh hbuf'.1 (by rw [HL.out]; omega) HVL.out (B8_led n) (by rw [HN.out]; exact hk0) hx.symm hq hs
    have hidx:m-1-k<s.size:=by omega
    have hch:(s[m-1-k]'hidx).toNat=x:=by rw [hx]; exact str_at HS.out m k HM.out hk0 hidx
    have hqi:(k:Int)/4=(q:Int):=by omega
    have hri:(k:Int) % 4=(r:Int):=by omega
    have hsi:8*(r:Int)=(sh:Int):=by omega
    have hs24:sh≤24:=by omega
    have hc2:=hbuf'.cell q (by rw [HL.out]; omega)
    rw [← ha] at hc2 k2 k3 k4 k5
    have hf:=hbuf'.frozen q
    have HB:=Lib.hid (hbuf'.set q (a+x*2^sh) _ k4 rfl)
    obtain ⟨t,ht⟩:∃ t,t=x*2^sh:=⟨_,rfl⟩
    have hti:(x:Int)*2^sh=(t:Int):=by rw [ht,Int.natCast_mul,Int.natCast_pow]; rfl
    rw [← ht] at k3 k4 k5 HB
    rw [Int.natCast_add] at HB
    have hmk2:((m:Int)-1-(k:Int))=((m-1-k:Nat):Int):=by omega
    have HK5:=Lib.hid k5
    have hql:q<(m+3)/4:=by omega
    clear ha hx ht hq hr hs k2 k3 k5 hbuf'
    go_wp2
    go_region
    go_wp2
    go_roundw
    case rel =>
     refine ⟨k+1,ls.set q (a+t),by omega,by go_num,by rw [Hid,List.length_set]; exact HL.out,HK5.out,HB.out,Below.drew (hb'.setCell (Nat.le_refl _) _)⟩
    case measure=>simp [intOf]; omega
  · obtain rfl:k=m:=by omega
    have hv:=HVL.out
    rw [List.take_of_length_le (by rw [HN.out]; exact Nat.le_refl _),bval_led] at hv
    have hd:ls=dig n:=full_dig hbuf'.1 hv (by rw [HL.out,dig_len_bytes,HN.out])
    have hln:(dig n).length=(k+3)/4:=by rw [← hd]; exact HL.out
    have hw:=hbuf'.words (cap:=(k+3)/4) (by rw [HL.out]; omega) (by rw [HL.out]; exact Nat.le_refl _)
    rw [hd] at hw
    have HW:=Lib.hid hw
    have HLN:=Lib.hid hln
    clear hbuf' hw hv hd hln
    go_wp2
    go_ret
    exact ⟨some ⟨w.heap.size,0,none⟩,(k+3)/4,by rw [HLN.out]; rfl,HW.out,hb'⟩
set_option maxHeartbeats 800000 in
set_option maxRecDepth 100000 in
theorem runder_cells (xs ys:List Nat) (b o b' o' n ca cb:Nat) (r:Int) (w:World) (hx:xs.length=n) (hy:ys.length=n) (hb:n≤17179869184) (h0:0<n) (hwx:Wf xs) (hwy:Wf ys) (hr:r=cmpN (val xs) (val ys))
  (hc:∀ i,i<n→w.cell? ⟨b,o+i,none⟩=some (.int .u32 (xs.getD i 0:Nat))) (hd:∀ i,i<n→w.cell? ⟨b',o'+i,none⟩=some (.int .u32 (ys.getD i 0:Nat))) :
  Calls Tryz.prog 278 #[.slice (some ⟨b,o,none⟩) n ca,.slice (some ⟨b',o',none⟩) n cb] w fun e w'=>e=.returned (.int .i64 r)∧Dr w w':=by
 have HX:=Lib.hid hx
 have HY:=Lib.hid hy
 have HR:=Lib.hid hr
 clear hx hy hr
 go_enter Tryz.func278,Tryz.ntmps278
 go_wp2
 go_loopw [5] (fun i wr=>∃ k:Nat,k≤n∧i=.int .i64 ((k:Int)-1)∧(∀ j,k≤j→j<n→xs.getD j 0=ys.getD j 0)∧Dr w wr) (fun i _=>(intOf i+1).toNat)
 case atStart=>exact ⟨n,Nat.le_refl _,rfl,fun j h1 h2=>by omega,Dr.refl _⟩
 case round =>
  obtain ⟨k,hk,rfl,hs,d,rfl⟩:=hrel
  have HS:=Lib.hid hs
  clear hs
  by_cases hk0:0<k
  · obtain ⟨k,rfl⟩:∃ j,k=j+1:=⟨k-1,by omega⟩
    have e1:((k+1:Nat):Int)-1=(k:Int):=by omega
    rw [e1]
    clear e1
    have hk1:(0:Int)≤(k:Int):=by omega
    have hk2:(k:Int)<(n:Int):=by omega
    have hcell:=hc k (by omega)
    have hcell':=hd k (by omega)
    go_wp2
    go_quiet (fail)
    go_wp2
    · have h1:(xs[k]?.getD 0)<(ys[k]?.getD 0):=by assumption
      go_ret
      refine ⟨ret_i ?_,by repeat (first | exact ⟨_,rfl⟩ | refine Dr.n ?_ _)⟩
      have h2:=val_lt_of xs ys k hwx (by rw [HX.out,HY.out]) (by rw [HX.out]; omega) (by simpa using h1) (fun j h3 h4=>HS.out j (by omega) (by rw [HX.out] at h4; exact h4))
      rw [HR.out,cmpN,if_pos h2]
    · go_quiet (fail)
      go_wp2
      · have h1:(ys[k]?.getD 0)<(xs[k]?.getD 0):=by assumption
        go_ret
        refine ⟨ret_i ?_,by repeat (first | exact ⟨_,rfl⟩ | refine Dr.n ?_ _)⟩
        have h2:=val_lt_of ys xs k hwy (by rw [HX.out,HY.out]) (by rw [HY.out]; omega) (by simpa using h1) (fun j h3 h4=>(HS.out j (by omega) (by rw [HY.out] at h4; exact h4)).symm)
        rw [HR.out,cmpN,if_neg (by omega),if_pos h2]
      · have h1:(ys[k]?.getD 0)≤(xs[k]?.getD 0):=Nat.le_of_not_lt (by assumption)
        have h2:(xs[k]?.getD 0)≤(ys[k]?.getD 0):=Nat.le_of_not_lt (by assumption)
        go_roundw
        case rel =>
         refine ⟨k,by omega,rfl,fun j h3 h4=>?_,by repeat (first | exact ⟨_,rfl⟩ | refine Dr.n ?_ _)⟩
         rcases Nat.eq_or_lt_of_le h3 with rfl | h5
         · simpa using Nat.le_antisymm h2 h1
         · exact HS.out j (by omega) h4
        case measure=>simp [intOf]
  · obtain rfl:k=0:=by omega
    go_wp2
    go_ret
    refine ⟨ret_i ?_,_,rfl⟩
    have:xs=ys:=val_eq_of_same xs ys (by rw [HX.out,HY.out]) (fun i hi=>HS.out i (by omega) (by rw [HX.out] at hi; exact hi))
    rw [HR.out,this]
    simp [cmpN]
set_option maxHeartbeats 800000 in
set_option maxRecDepth 100000 in
theorem runder_any {w:World} {A B:Option Addr} {la ca lb cb n m:Nat} (hx:Words w (.slice A la ca) (dig n)) (hy:Words w (.slice B lb cb) (dig m)) :
  Calls Tryz.prog 278 #[.slice A la ca,.slice B lb cb] w fun e w'=>e=.returned (.int .i64 (cmpN n m))∧Dr w w':=by
 have hla:=hx.len.1
 have hlb:=hy.len.1
 have hsz:=hx.2.1
 have hsz2:=hy.2.1
 rcases Nat.lt_trichotomy la lb with h | h | h
 · have hc:cmpN n m = -1:=by rw [cmpN,if_pos (dig_len_lt n m (by omega))]
   rw [hc]
   rw [← hla] at hsz
   rw [← hlb] at hsz2
   clear hx hy hc hla hlb
   go_enter Tryz.func278,Tryz.ntmps278
   go_wp2
   go_ret
   exact ⟨rfl,Dr.refl _⟩
 · subst h
   by_cases h0:la=0
   · subst h0
     have e1:=(dig_nil_iff n).1 (List.eq_nil_of_length_eq_zero hla.symm)
     have e2:=(dig_nil_iff m).1 (List.eq_nil_of_length_eq_zero hlb.symm)
     have hc:cmpN n m=0:=by rw [e1,e2]; rfl
     rw [hc]
     clear hx hy hc hla hlb hsz hsz2 e1 e2
     go_enter Tryz.func278,Tryz.ntmps278
     go_wp2
     refine wp_loop_rounds 1 ?_
     rw [rounds_succ]
     go_wp2
     go_ret
     exact ⟨rfl,Dr.refl _⟩
   · obtain ⟨b,o,rfl,hc⟩:=hx.open_ (by omega)
     obtain ⟨b',o',rfl,hd⟩:=hy.open_ (by omega)
     exact runder_cells (dig n) (dig m) b o b' o' la ca cb _ w hla.symm hlb.symm (by omega) (by omega) (Wf_dig n) (Wf_dig m) (by rw [val_dig,val_dig]) hc hd
 · have hc:cmpN n m=1:=by have:=dig_len_lt m n (by omega); rw [cmpN,if_neg (by omega),if_pos this]
   rw [hc]
   rw [← hla] at hsz
   rw [← hlb] at hsz2
   clear hx hy hc hla hlb
   go_enter Tryz.func278,Tryz.ntmps278
   go_wp2
   go_ret
   exact ⟨rfl,Dr.refl _⟩
theorem at_any {w:World} {A:Option Addr} {n cap:Nat} {xs:List Nat} (h:Words w (.slice A n cap) xs) (i:Nat) (hi:i≤4611686018427387904) :
  Calls Tryz.prog 330 #[.slice A n cap,.int .i64 (i:Int)] w fun e w'=>e=.returned (.int .u64 ((xs.getD i 0:Nat):Int))∧w=w':=by
 have hl:=h.len.1
 have hb:=h.2.1
 have HX:=Lib.hid h
 have HL:=Lib.hid hl
 have hn:n≤17179869184:=by omega
 obtain ⟨x,hx⟩:∃ x,x=xs.getD i 0:=⟨_,rfl⟩
 have hx32:x<4294967296:=by rw [hx]; exact h.1.getD i
 by_cases hlt:i<n
 · obtain ⟨b,o,rfl,hall⟩:=h.open_ (by omega)
   have hc:=hall i (by omega)
   rw [← hx] at hc ⊢
   clear hall h hx hl hb
   go_enter Tryz.func330,Tryz.ntmps330
   go_wp2
   go_ret
   exact ⟨rfl,rfl⟩
 · have hx0:x=0:=by rw [hx]; exact getD_out (by omega)
   rw [← hx,hx0]
   clear h hx hl hb hx0
   go_enter Tryz.func330,Tryz.ntmps330
   go_wp2
   go_ret
   exact ⟨rfl,rfl⟩
set_option maxHeartbeats 800000 in
theorem small_any {A:Option Addr} {la ca:Nat} {xs:List Nat} {w:World} (hx:Words w (.slice A la ca) xs) (h1:la≤17179869184) (d:Nat) (hd0:0<d) (hd:d<4294967296) :
  Calls Tryz.prog 250 #[.slice A la ca,.int .u64 (d:Int)] w fun e w'=>∃ v,e=.returned (.tuple #[v,.int .u64 ((val xs % d:Nat):Int)])∧Words w' v (dig (val xs/d))∧Below w.heap.size w w':=by
 have hla:=Lib.hid hx.len.1
 have HA:=Lib.hid hx
 have hwx:=Lib.hid hx.1
 clear hx
 have hd1:(1:Int)≤(d:Int):=by omega
 go_enter Tryz.func250,Tryz.ntmps250
 go_wp2_with (at_make; refine wpList_make_words rfl _ _ rfl _ _ _ _ la la rfl rfl rfl rfl (by omega) (by omega) ?_)
 intro w1 hbuf hb1 hz1
 have HZ:=Lib.hid hz1
 clear hz1
 go_wp2
 go_loopw [7,8] (fun c i wr=>∃ (k r:Nat) (qs:List Nat),k≤la∧r<d∧c=.int .u64 (r:Int)∧i=.int .i64 ((k:Int)-1)∧Hid (qs.length=la-k)∧Hid (val qs*d+r=val (xs.drop k))∧Buf wr w.heap.size (List.replicate k 0++qs)∧Below w.heap.size w wr) (fun _ i _=>(intOf i+1).toNat)
 case atStart=>exact ⟨la,0,[],by omega,hd0,rfl,rfl,by simp [Hid],by rw [Hid,List.drop_of_length_le (by rw [hla.out]; exact Nat.le_refl _)]; simp [val],by simpa using hbuf,hb1⟩
 case round =>
  obtain ⟨k,r,qs,hk,hr,rfl,rfl,HK,HV,hbuf',hb'⟩:=hrel
  have hlt:=hb'.size
  have hblt:=hbuf'.lt
  clear hbuf hb1 HZ
  by_cases hk0:0<k
  · obtain ⟨k,rfl⟩:∃ j,k=j+1:=⟨k-1,by omega⟩
    have e1:((k+1:Nat):Int)-1=(k:Int):=by omega
    rw [e1]
    clear e1
    have hX:=(HA.out.below hb')
    obtain ⟨b,o,rfl,hall⟩:=hX.open_ (by omega)
    obtain ⟨x,hx⟩:∃ x,x=xs.getD k 0:=⟨_,rfl⟩
    have hcx:wr.cell? ⟨b,o+k,none⟩=some (.int .u32 (x:Int)):=by rw [hx]; exact hall k (by omega)
    have hxl:x<4294967296:=by rw [hx]; exact hwx.out.getD k
    have hst:=hbuf'.cell k (by rw [List.length_append,HK.out,List.length_replicate]; omega)
    have hfz:=hbuf'.frozen k
    have HBUF:=Lib.hid hbuf'
    obtain ⟨t,ht⟩:∃ t,t=r*4294967296+x:=⟨_,rfl⟩
    have hti:(r:Int)*4294967296+(x:Int)=(t:Int):=by omega
    have hrb:(r:Int)*4294967296≤18446744069414584320:=by omega
    have htb:t≤18446744073709551615:=by omega
    obtain ⟨q,hqd⟩:∃ q,q=t/d:=⟨_,rfl⟩
    obtain ⟨r',hrd⟩:∃ r',r'=t % d:=⟨_,rfl⟩
    have hq:((t:Int)/(d:Int))=(q:Int):=by rw [hqd]; rfl
    have hq2:((t:Int) % (d:Int))=(r':Int):=by rw [hrd]; rfl
    have hqb:q≤4294967295:=by have:=short_word r d x hr hxl; rw [← ht,← hqd] at this; omega
    have hrb:r'<d:=by rw [hrd]; exact Nat.mod_lt _ hd0
    have HQ:=Lib.hid hqd
    have HR:=Lib.hid hrd
    have HT:=Lib.hid ht
    have HXX:=Lib.hid hx
    have hk1:(0:Int)≤(k:Int):=by omega
    clear hX hall hbuf' ht hqd hrd hx
    go_wp2
    go_roundw
    case rel =>
     refine ⟨k,r',q::qs,by omega,hrb,by rw [hq2],rfl,?_,by rw [HQ.out,HR.out]; exact short_val xs qs k r d t (by have:=hla.out; omega) HV.out (by rw [HT.out,HXX.out]),?_,hb'.setCell (Nat.le_refl _) _⟩
     · rw [Hid,List.length_cons,HK.out]; omega
     · have:=HBUF.out.set k q _ (by omega) rfl
       rw [set_zero_append] at this
       exact this
    case measure=>simp [intOf]
  · obtain rfl:k=0:=by omega
    rw [List.replicate_zero,List.nil_append] at hbuf'
    have hw:=hbuf'.words (cap:=la) (by rw [HK.out]; omega) (by rw [HK.out]; omega)
    rw [HK.out,Nat.sub_zero] at hw
    have HW:=Lib.hid hw
    have hend:=Lib.hid (short_end xs qs r d hr (by have:=HV.out; rwa [List.drop_zero] at this))
    clear hbuf' hw
    go_wp2_with (go_at_call 245; refine (rcut_any HW.out).mono ?_; rintro e w2 ⟨rfl,rfl⟩)
    go_ret2
    refine ⟨.slice (some ⟨w.heap.size,0,none⟩) (trim qs).length la,?_,?_,hb'⟩
    · rw [← hend.out.2]; rfl
    · rw [← dig_of qs _ HW.out.1 hend.out.1]
      exact HW.out.trim_
end
section
open Go.RowKit
set_option maxHeartbeats 1600000 in
set_option maxRecDepth 100000 in
theorem rmore_any {A B:Option Addr} {la ca lb cb:Nat} {xs ys:List Nat} {w:World} (hx:Words w (.slice A la ca) xs) (hy:Words w (.slice B lb cb) ys) (h1:la≤8589934592) (h2:lb≤8589934592) :
  Calls Tryz.prog 243 #[.slice A la ca,.slice B lb cb] w fun e w'=>∃ v,e=.returned v∧Words w' v (dig (val xs+val ys))∧Below w.heap.size w w':=by
 have hla:=Lib.hid hx.len.1
 have hlb:=Lib.hid hy.len.1
 have HA:=Lib.hid hx
 have HB:=Lib.hid hy
 have hwx:=Lib.hid hx.1
 have hwy:=Lib.hid hy.1
 obtain ⟨n,hn⟩:∃ n,n=max la lb+1:=⟨_,rfl⟩
 have hnb:n≤8589934593:=by omega
 rcases Nat.lt_or_ge la lb with hcase | hcase
 · have hni:(lb:Int)+1=(n:Int):=by omega
   have HN:=Lib.hid hn
   clear hx hy hn
   go_enter Tryz.func243,Tryz.ntmps243
   go_wp2_with (at_make; refine wpList_make_words rfl _ _ rfl _ _ _ _ n n rfl rfl (by first | rfl | omega) (by first | rfl | omega) (Nat.le_refl _) (by omega) ?_)
   intro w1 hbuf hb1 hz1
   have HZ:=Lib.hid hz1
   clear hz1
   go_wp2
   go_loopw [7,8] (fun c i wr=>∃ (k d:Nat) (zs:List Nat),k≤n∧d≤1∧c=.int .u64 (d:Int)∧i=.int .i64 (k:Int)∧Hid (zs.length=k)∧Hid (val zs+4294967296^k*d=val (xs.take k)+val (ys.take k))∧Buf wr w.heap.size (zs++List.replicate (n-k) 0)∧Below w.heap.size w wr) (fun _ i _=>n-(intOf i).toNat)
   case atStart=>exact ⟨0,0,[],by omega,by omega,rfl,rfl,rfl,by simp [Hid,val],by simpa using hbuf,hb1⟩
   case round =>
    obtain ⟨k,d,zs,hk,hd,rfl,rfl,HK,HV,hbuf',hb'⟩:=hrel
    have hlt:=hb'.size
    have hblt:=hbuf'.lt
    clear hbuf hb1 HZ
    by_cases hk1:k<n
    · obtain ⟨x,hx⟩:∃ x,x=xs.getD k 0:=⟨_,rfl⟩
      obtain ⟨y,hy⟩:∃ y,y=ys.getD k 0:=⟨_,rfl⟩
      have hx32:x<4294967296:=by rw [hx]; exact hwx.out.getD k
      have hy32:y<4294967296:=by rw [hy]; exact hwy.out.getD k
      have HX:=Lib.hid hx
      have HY:=Lib.hid hy
      have hst:=hbuf'.cell k (by rw [List.length_append,HK.out,List.length_replicate]; omega)
      have hfz:=hbuf'.frozen k
      have HBUF:=Lib.hid hbuf'
      have HBB:=Lib.hid hb'
      clear hx hy hbuf' hb'
      go_wp2_with fail
      refine (at_any (HA.out.below HBB.out) k (by omega)).mono ?_
      rintro e w2 ⟨rfl,rfl⟩
      rw [← HX.out]
      go_wp2_with fail
      refine (at_any (HB.out.below HBB.out) k (by omega)).mono ?_
      rintro e w3 ⟨rfl,rfl⟩
      rw [← HY.out]
      go_wp2
      go_roundw
      case rel =>
       refine ⟨k+1,(d+x+y)/4294967296,zs++[(d+x+y) % 4294967296],by omega,by omega,by go_num,by go_num,?_,?_,?_,HBB.out.setCell (Nat.le_refl _) _⟩
       · rw [Hid,List.length_append,HK.out]; rfl
       · exact more_val _ _ _ _ _ _ HK.out HV.out (by rw [HX.out,HY.out])
       · have:=HBUF.out.push HK.out (by omega) ((d+x+y) % 4294967296) _ (by omega) (by go_num)
         rw [show n-k-1=n-(k+1) from by omega] at this
         exact this
      case measure=>simp [intOf]; omega
    · obtain rfl:k=n:=by omega
      rw [Nat.sub_self,List.replicate_zero,List.append_nil] at hbuf'
      have hv:val zs=val xs+val ys:=by
       have e1:=HV.out
       rw [val_take_all xs k (by rw [← hla.out]; have:=HN.out; omega),val_take_all ys k (by rw [← hlb.out]; have:=HN.out; omega)] at e1
       have e2:=val_lt xs hwx.out
       have e3:=val_lt ys hwy.out
       have e4:4294967296^xs.length≤4294967296^(k-1):=Nat.pow_le_pow_right (by decide) (by rw [← hla.out]; have:=HN.out; omega)
       have e5:4294967296^ys.length≤4294967296^(k-1):=Nat.pow_le_pow_right (by decide) (by rw [← hlb.out]; have:=HN.out; omega)
       have e6:4294967296^k=4294967296^(k-1)*4294967296:=by rw [← Nat.pow_succ]; congr 1; have:=HN.out; omega
       rcases (by omega:d=0∨d=1) with rfl | rfl
       · omega
       · omega
      have hw:=hbuf'.words (cap:=k) (by rw [HK.out]; omega) (by rw [HK.out]; exact Nat.le_refl _)
      have hdd:=dig_of zs _ hbuf'.1 hv
      rw [HK.out] at hw
      have HW:=Lib.hid hw
      have HD:=Lib.hid hdd
      clear hbuf' hw hv hdd
      go_wp2_with fail
      refine (rcut_any HW.out).mono ?_
      rintro e w2 ⟨rfl,rfl⟩
      go_wp2
      go_ret
      refine ⟨_,rfl,?_,hb'⟩
      rw [← HD.out]
      exact HW.out.trim_
 · have hni:(la:Int)+1=(n:Int):=by omega
   have HN:=Lib.hid hn
   clear hx hy hn
   go_enter Tryz.func243,Tryz.ntmps243
   go_wp2_with (at_make; refine wpList_make_words rfl _ _ rfl _ _ _ _ n n rfl rfl (by first | rfl | omega) (by first | rfl | omega) (Nat.le_refl _) (by omega) ?_)
   intro w1 hbuf hb1 hz1
   have HZ:=Lib.hid hz1
   clear hz1
   go_wp2
   go_loopw [7,8] (fun c i wr=>∃ (k d:Nat) (zs:List Nat),k≤n∧d≤1∧c=.int .u64 (d:Int)∧i=.int .i64 (k:Int)∧Hid (zs.length=k)∧Hid (val zs+4294967296^k*d=val (xs.take k)+val (ys.take k))∧Buf wr w.heap.size (zs++List.replicate (n-k) 0)∧Below w.heap.size w wr) (fun _ i _=>n-(intOf i).toNat)
   case atStart=>exact ⟨0,0,[],by omega,by omega,rfl,rfl,rfl,by simp [Hid,val],by simpa using hbuf,hb1⟩
   case round =>
    obtain ⟨k,d,zs,hk,hd,rfl,rfl,HK,HV,hbuf',hb'⟩:=hrel
    have hlt:=hb'.size
    have hblt:=hbuf'.lt
    clear hbuf hb1 HZ
    by_cases hk1:k<n
    · obtain ⟨x,hx⟩:∃ x,x=xs.getD k 0:=⟨_,rfl⟩
      obtain ⟨y,hy⟩:∃ y,y=ys.getD k 0:=⟨_,rfl⟩
      have hx32:x<4294967296:=by rw [hx]; exact hwx.out.getD k
      have hy32:y<4294967296:=by rw [hy]; exact hwy.out.getD k
      have HX:=Lib.hid hx
      have HY:=Lib.hid hy
      have hst:=hbuf'.cell k (by rw [List.length_append,HK.out,List.length_replicate]; omega)
      have hfz:=hbuf'.frozen k
      have HBUF:=Lib.hid hbuf'
      have HBB:=Lib.hid hb'
      clear hx hy hbuf' hb'
      go_wp2_with fail
      refine (at_any (HA.out.below HBB.out) k (by omega)).mono ?_
      rintro e w2 ⟨rfl,rfl⟩
      rw [← HX.out]
      go_wp2_with fail
      refine (at_any (HB.out.below HBB.out) k (by omega)).mono ?_
      rintro e w3 ⟨rfl,rfl⟩
      rw [← HY.out]
      go_wp2
      go_roundw
      case rel =>
       refine ⟨k+1,(d+x+y)/4294967296,zs++[(d+x+y) % 4294967296],by omega,by omega,by go_num,by go_num,?_,?_,?_,HBB.out.setCell (Nat.le_refl _) _⟩
       · rw [Hid,List.length_append,HK.out]; rfl
       · exact more_val _ _ _ _ _ _ HK.out HV.out (by rw [HX.out,HY.out])
       · have:=HBUF.out.push HK.out (by omega) ((d+x+y) % 4294967296) _ (by omega) (by go_num)
         rw [show n-k-1=n-(k+1) from by omega] at this
         exact this
      case measure=>simp [intOf]; omega
    · obtain rfl:k=n:=by omega
      rw [Nat.sub_self,List.replicate_zero,List.append_nil] at hbuf'
      have hv:val zs=val xs+val ys:=by
       have e1:=HV.out
       rw [val_take_all xs k (by rw [← hla.out]; have:=HN.out; omega),val_take_all ys k (by rw [← hlb.out]; have:=HN.out; omega)] at e1
       have e2:=val_lt xs hwx.out
       have e3:=val_lt ys hwy.out
       have e4:4294967296^xs.length≤4294967296^(k-1):=Nat.pow_le_pow_right (by decide) (by rw [← hla.out]; have:=HN.out; omega)
       have e5:4294967296^ys.length≤4294967296^(k-1):=Nat.pow_le_pow_right (by decide) (by rw [← hlb.out]; have:=HN.out; omega)
       have e6:4294967296^k=4294967296^(k-1)*4294967296:=by rw [← Nat.pow_succ]; congr 1; have:=HN.out; omega
       rcases (by omega:d=0∨d=1) with rfl | rfl
       · omega
       · omega
      have hw:=hbuf'.words (cap:=k) (by rw [HK.out]; omega) (by rw [HK.out]; exact Nat.le_refl _)
      have hdd:=dig_of zs _ hbuf'.1 hv
      rw [HK.out] at hw
      have HW:=Lib.hid hw
      have HD:=Lib.hid hdd
      clear hbuf' hw hv hdd
      go_wp2_with fail
      refine (rcut_any HW.out).mono ?_
      rintro e w2 ⟨rfl,rfl⟩
      go_wp2
      go_ret
      refine ⟨_,rfl,?_,hb'⟩
      rw [← HD.out]
      exact HW.out.trim_
theorem bits_top (m l t j:Nat) (hl:(dig m).length=l+1) (ht:(dig m).getD l 0=t) (h1:t<2^j) (h2:0<j→2^(j-1)≤t) (hj:0<j):Bits m (32*l+j):=by
 have hm:=dig_lt m
 rw [hl] at hm
 rw [dig_getD] at ht
 rw [Nat.pow_succ] at hm
 have h3:m/4294967296^l<4294967296:=Nat.div_lt_of_lt_mul hm
 rw [Nat.mod_eq_of_lt h3] at ht
 have hP:0<4294967296^l:=Nat.pow_pos (by decide)
 have e1:2^(32*l+j)=4294967296^l*2^j:=by rw [p32,← Nat.pow_add]
 have e2:2^(32*l+j-1)=4294967296^l*2^(j-1):=by
  rw [p32,← Nat.pow_add]
  congr 1
  omega
 refine ⟨?_,fun _=>?_⟩
 · rw [e1]
   subst ht
   rw [Nat.mul_comm]
   exact (Nat.div_lt_iff_lt_mul hP).1 h1
 · rw [e2]
   subst ht
   rw [Nat.mul_comm]
   exact (Nat.le_div_iff_mul_le hP).1 (h2 hj)
set_option maxRecDepth 100000 in
theorem rbits_any {w:World} {A:Option Addr} {n cap m:Nat} (h:Words w (.slice A n cap) (dig m)) :
  Calls Tryz.prog 364 #[.slice A n cap] w fun e w'=>∃ L:Nat,e=.returned (.int .i64 (L:Int))∧Bits m L∧L≤32*n∧Below w.heap.size w w':=by
 have hl:=h.len.1
 have hb:=h.2.1
 have hn:n≤17179869184:=by omega
 rcases Nat.eq_zero_or_pos n with hz | hz
 · subst hz
   have hm:m=0:=(dig_nil_iff _).1 (List.eq_nil_of_length_eq_zero hl.symm)
   have HM:=Lib.hid hm
   clear hm hl hb h
   go_enter Tryz.func364,Tryz.ntmps364
   go_wp2
   go_ret
   exact ⟨0,rfl,by rw [HM.out]; exact ⟨by decide,fun h=>absurd h (by decide)⟩,by omega,Below.refl _ _⟩
 · obtain ⟨l,rfl⟩:∃ l,n=l+1:=⟨n-1,by omega⟩
   have ht0:(dig m).getD l 0≠0:=by
    have:=dig_top m (fun e=>by rw [e] at hl; simp at hl)
    rwa [← hl] at this
   obtain ⟨b,o,rfl,hall⟩:=h.open_ (by omega)
   obtain ⟨t,ht⟩:∃ t,t=(dig m).getD l 0:=⟨_,rfl⟩
   have hc:w.cell? ⟨b,o+l,none⟩=some (.int .u32 (t:Int)):=by rw [ht]; exact hall l (by omega)
   have ht32:t<4294967296:=by rw [ht]; exact (Wf_dig _).getD _
   have htp:0<t:=by omega
   have HF:=Lib.hid (fun j h1 h2 hj=>bits_top m l t j hl.symm ht.symm h1 h2 hj)
   have hll:((l+1:Nat):Int)-1=(l:Int):=by omega
   clear hl hb h ht0 hall ht
   go_enter Tryz.func364,Tryz.ntmps364
   go_wp2
   go_loopw [3,4] (fun i c wr=>∃ j T:Nat,j≤32∧i=.int .i64 ((32*l+j:Nat):Int)∧c=.int .u32 (T:Int)∧T<4294967296∧Hid (T=t/2^j)∧Hid (0<j→2^(j-1)≤t)∧Below w.heap.size w wr) (fun _ c _=>(intOf c).toNat)
   case atStart=>exact ⟨0,t,by omega,by go_num,rfl,ht32,by simp [Hid],fun h=>absurd h (by decide),by first | exact Below.refl _ _ | exact Below.drewN_ (Below.refl _ _) _⟩
   case round =>
    obtain ⟨j,T,hj,rfl,rfl,hT,HTT,HJ,hbb⟩:=hrel
    by_cases hT0:0<T
    · have hj32:j<32:=by
       rcases Nat.lt_or_ge j 32 with h | h
       · exact h
       · exfalso
         have h1:=HTT.out
         have h2:2^32≤2^j:=Nat.pow_le_pow_right (by decide) h
         rw [Nat.div_eq_of_lt (by omega)] at h1
         omega
      have HJ2:Hid (2^j≤t):=by
       have h1:=HTT.out
       rcases Nat.lt_or_ge t (2^j) with h | h
       · rw [Nat.div_eq_of_lt h] at h1; omega
       · exact h
      go_wp2
      go_roundw
      case rel =>
       refine ⟨j+1,T/2,by omega,by go_num,by go_num,by omega,?_,fun _=>HJ2.out,hbb⟩
       rw [Hid,HTT.out,Nat.pow_succ,Nat.div_div_eq_div_mul]
      case measure=>simp [intOf]; omega
    · obtain rfl:T=0:=by omega
      have hlt:t<2^j:=by
       have h1:=HTT.out
       rcases Nat.lt_or_ge t (2^j) with h | h
       · exact h
       · have:=Nat.div_pos h (Nat.two_pow_pos j)
         omega
      have hj0:0<j:=by
       rcases Nat.eq_zero_or_pos j with h | h
       · subst h; simp at hlt; omega
       · exact h
      have HG:=Lib.hid (HF.out j hlt HJ.out hj0)
      clear hc hlt
      go_wp2
      go_ret
      exact ⟨32*l+j,rfl,HG.out,by omega,hbb⟩
end
section
open Go.RowKit
set_option maxHeartbeats 1600000 in
set_option maxRecDepth 100000 in
theorem up_any {A:Option Addr} {la ca:Nat} {xs:List Nat} {w:World} (hx:Words w (.slice A la ca) xs) (h1:la≤8589934592) (n:Nat) (hn:n≤137438953472) :
  Calls Tryz.prog 365 #[.slice A la ca,.int .i64 (n:Int)] w fun e w'=>∃ v,e=.returned v∧Words w' v (dig (val xs*2^n))∧Below w.heap.size w w':=by
 have hla:=Lib.hid hx.len.1
 have HA:=Lib.hid hx
 have hwx:=Lib.hid hx.1
 rcases Nat.eq_zero_or_pos la with hz | hz
 · subst hz
   have hxs:xs=[]:=List.eq_nil_of_length_eq_zero hla.out.symm
   have HE:Hid (dig (val xs*2^n)=[]):=by rw [hxs]; simp [Hid,val,dig_zero]
   clear hx hxs
   go_enter Tryz.func365,Tryz.ntmps365
   go_wp2
   go_ret
   exact ⟨_,rfl,by rw [HE.out]; exact Words.nil _,Below.refl _ _⟩
 have hla0:((la:Int)==0)=false:=by rw [beq_eq_false_iff_ne]; omega
 clear hx
 obtain ⟨s,hs⟩:∃ s,s=n % 32:=⟨_,rfl⟩
 have hs32:s<32:=by omega
 have hsi:(n:Int) % 32=(s:Int):=by omega
 have HS:=Lib.hid hs
 clear hs
 go_enter Tryz.func365,Tryz.ntmps365
 go_wp2_with (at_make; refine wpList_make_words rfl _ _ rfl _ _ _ _ (n/32) (n/32+la+1) rfl rfl (by omega) (by omega) (by omega) (by omega) ?_)
 intro w1 hbuf hb1 hz1
 have HROW:=Lib.hid (Row.of_buf (n:=n/32) hbuf (Nat.le_refl _) (by omega) (by omega))
 have HZ:=Lib.hid hz1
 clear hz1 hbuf
 go_wp2
 go_loopw [5,6,7] (fun v c i wr=>∃ (k d:Nat) (ys:List Nat),k≤la∧Hid (d<2^s)∧c=.int .u64 (d:Int)∧i=.int .i64 (k:Int)∧Hid (ys.length=k)∧Hid (val ys+4294967296^k*d=val (xs.take k)*2^s)∧Hid (Row wr w.heap.size v (List.replicate (n/32) 0++ys))∧Below w.heap.size w wr) (fun _ _ i _=>la-(intOf i).toNat)
 case atStart=>exact ⟨0,0,[],by omega,Nat.two_pow_pos _,rfl,rfl,rfl,by simp [Hid,val],by simpa [Hid] using HROW.out,hb1⟩
 case round =>
  obtain ⟨k,d,ys,hk,HD,rfl,rfl,HK,HV,hrow',hb'⟩:=hrel
  have hlt:=hb'.size
  clear HROW hb1 HZ
  by_cases hk1:k<la
  · have hX:=(HA.out.below hb')
    obtain ⟨b,o,rfl,hall⟩:=hX.open_ (by omega)
    obtain ⟨x,hx⟩:∃ x,x=xs.getD k 0:=⟨_,rfl⟩
    have hcx:wr.cell? ⟨b,o+k,none⟩=some (.int .u32 (x:Int)):=by rw [hx]; exact hall k hk1
    have hxl:x<4294967296:=by rw [hx]; exact hwx.out.getD k
    obtain ⟨m,hm⟩:∃ m,m=x*2^s:=⟨_,rfl⟩
    have hmi:(x:Int)*2^s=(m:Int):=by rw [hm,Int.natCast_mul,Int.natCast_pow]; rfl
    have hmb:=mul_two_pow_lt x s hxl (by omega)
    rw [← hm] at hmb
    have hsp:2^s≤2^32:=Nat.pow_le_pow_right (by omega) (by omega)
    have hp:=Nat.two_pow_pos s
    have hd1:=HD.out
    have hm1:m≤18446744073709551615:=by omega
    have hd2:d≤4294967296:=by omega
    have hsum:d+m≤18446744073709551615:=by omega
    have HM:=Lib.hid hm
    have HXX:=Lib.hid hx
    clear hX hall hm hmb hsp hp hd1 hx
    go_wp2_with (at_builtin; refine wpList_append_word rfl (.tmp 36) (.tmp 40) rfl w.heap.size _ (List.replicate (n/32) 0++ys) rfl (hrow'.out.alloc _) ⟨wr.heap.size,0,none⟩ 1 ((d+m) % 4294967296) _ rfl (cell_new0 _ _ _) ?_ (by omega) ?_ ?_ ?_)
    · omega
    · simp only [List.length_append,List.length_replicate,HK.out]; omega
    · simp; omega
    · intro v' w' hrow2 hb2
      have HR2:=Lib.hid hrow2
      have hb3:Below w.heap.size w w':=(hb'.alloc (by omega) _).trans hb2
      clear hrow2 hb2 hb'
      go_wp2
      go_roundw
      case rel =>
       refine ⟨k+1,(d+m)/4294967296,ys++[(d+m) % 4294967296],by omega,?_,by go_num,by go_num,?_,?_,HR2.out,hb3⟩
       · rw [Hid,HM.out]; exact left_carry _ s d hxl (by omega) HD.out
       · rw [Hid,List.length_append,HK.out]; rfl
       · exact left_val xs ys k d s _ HK.out HV.out (by rw [HM.out,HXX.out])
      case measure=>simp [intOf]; omega
  · obtain rfl:k=la:=by omega
    have hsp:2^s≤2^32:=Nat.pow_le_pow_right (by omega) (by omega)
    have hd1:d<4294967296:=by have:=HD.out; omega
    clear hsp
    go_wp2_with (at_builtin; refine wpList_append_word rfl (.tmp 44) (.tmp 47) rfl w.heap.size _ (List.replicate (n/32) 0++ys) rfl (hrow'.out.alloc _) ⟨wr.heap.size,0,none⟩ 1 d _ rfl (cell_new0 _ _ _) ?_ hd1 ?_ ?_ ?_)
    · omega
    · simp only [List.length_append,List.length_replicate,HK.out]; omega
    · simp; omega
    · intro v' w' hrow2 hb2
      have hb3:Below w.heap.size w w':=(hb'.alloc (by omega) _).trans hb2
      have hw:=hrow2.words (by simp only [List.length_append,List.length_replicate,HK.out,List.length_cons,List.length_nil]; omega)
      have HW:=Lib.hid hw
      obtain ⟨A',L',cap',rfl⟩:=hw.form
      clear hrow2 hb2 hb' hw
      go_wp2_with (go_at_call 245; refine (rcut_any HW.out).mono ?_; rintro e w2 ⟨rfl,rfl⟩)
      go_ret
      refine ⟨_,rfl,?_,hb3⟩
      have h2:=HW.out.trim_
      have h3:trim (List.replicate (n/32) 0++(ys++[d]))=dig (val xs*2^n):=by
       refine dig_of _ _ HW.out.1 (left_end xs ys n d ?_)
       have:=HV.out
       rw [val_take_all xs _ (by rw [hla.out]; exact Nat.le_refl _),HS.out] at this
       rw [HK.out]; exact this
      rw [← h3]
      exact h2
set_option maxHeartbeats 1600000 in
set_option maxRecDepth 100000 in
theorem rproduct_any {A B:Option Addr} {la ca lb cb:Nat} {xs ys:List Nat} {w:World} (hx:Words w (.slice A la ca) xs) (hy:Words w (.slice B lb cb) ys) (h1:la≤8589934592) (h2:lb≤8589934592) :
  Calls Tryz.prog 244 #[.slice A la ca,.slice B lb cb] w fun e w'=>∃ v,e=.returned v∧Words w' v (dig (val xs*val ys))∧Below w.heap.size w w':=by
 have hla:=Lib.hid hx.len.1
 have hlb:=Lib.hid hy.len.1
 have HA:=Lib.hid hx
 have HB:=Lib.hid hy
 have hwx:=Lib.hid hx.1
 have hwy:=Lib.hid hy.1
 clear hx hy
 go_enter Tryz.func244,Tryz.ntmps244
 go_wp2_with (at_make; refine wpList_make_words rfl _ _ rfl _ _ _ _ (la+lb) (la+lb) rfl rfl (by omega) (by omega) (Nat.le_refl _) (by omega) ?_)
 intro w1 hbuf hb1 hz1
 have HZ:=Lib.hid hz1
 clear hz1
 go_wp2
 go_loopw [6] (fun i wr=>∃ (k:Nat) (os:List Nat),k≤la∧i=.int .i64 (k:Int)∧Hid (os.length=la+lb)∧Hid (val os=val (xs.take k)*val ys)∧Hid (∀ j,k+lb≤j→os.getD j 0=0)∧Buf wr w.heap.size os∧Below w.heap.size w wr) (fun i _=>la-(intOf i).toNat)
 case atStart=>exact ⟨0,List.replicate (la+lb) 0,by omega,rfl,by simp [Hid],by simp [Hid,val,val_zeros],fun j _=>by simp [List.getD,List.getElem?_replicate]; split<;>rfl,hbuf,hb1⟩
 case round =>
  obtain ⟨i,os,hi,rfl,HK,HV,H0,hbuf',hb'⟩:=hrel
  obtain ⟨wo,rfl⟩:∃ wo:World,wo=wr:=⟨_,rfl⟩
  clear hbuf hb1 HZ
  by_cases hk1:i<la
  · have hX:=(HA.out.below hb')
    obtain ⟨b,o,rfl,hall⟩:=hX.open_ (by omega)
    obtain ⟨x,hx⟩:∃ x,x=xs.getD i 0:=⟨_,rfl⟩
    have hcx:wo.cell? ⟨b,o+i,none⟩=some (.int .u32 (x:Int)):=by rw [hx]; exact hall i hk1
    have hxl:x<4294967296:=by rw [hx]; exact hwx.out.getD i
    have HXX:=Lib.hid hx
    have HBUF:=Lib.hid hbuf'
    clear hX hall hbuf' hx
    go_wp2
    go_loopw [7,9] (fun c j wr=>∃ (k d:Nat) (os':List Nat),k≤lb∧d<4294967296∧c=.int .u64 (d:Int)∧j=.int .i64 (k:Int)∧Hid (os'.length=la+lb)∧Hid (val os'+4294967296^(i+k)*d=val os+4294967296^i*(x*val (ys.take k)))∧Hid (∀ j,i+lb≤j→os'.getD j 0=0)∧Buf wr w.heap.size os'∧Below w.heap.size w wr) (fun _ j _=>lb-(intOf j).toNat)
    case atStart=>exact ⟨0,0,os,by omega,by omega,rfl,rfl,HK,by simp [Hid,val],H0,HBUF.out,hb'⟩
    case round =>
     obtain ⟨k,d,os',hk,hd,rfl,rfl,HK',HV',H0',hbuf2,hb2⟩:=hrel
     have hlt:=hb2.size
     have hblt:=hbuf2.lt
     clear hb' hcx
     by_cases hk2:k<lb
     · have hY:=(HB.out.below hb2)
       obtain ⟨b2,o2,rfl,hall⟩:=hY.open_ (by omega)
       obtain ⟨y,hy⟩:∃ y,y=ys.getD k 0:=⟨_,rfl⟩
       have hcy:wr.cell? ⟨b2,o2+k,none⟩=some (.int .u32 (y:Int)):=by rw [hy]; exact hall k hk2
       have hyl:y<4294967296:=by rw [hy]; exact hwy.out.getD k
       obtain ⟨z,hz⟩:∃ z,z=os'.getD (i+k) 0:=⟨_,rfl⟩
       have hst:wr.cell? ⟨w.heap.size,i+k,none⟩=some (.int .u32 (z:Int)):=by rw [hz]; exact hbuf2.cell (i+k) (by rw [HK'.out]; omega)
       have hfz:=hbuf2.frozen (i+k)
       have hol:z<4294967296:=by rw [hz]; exact hbuf2.1.getD (i+k)
       obtain ⟨m,hm⟩:∃ m,m=x*y:=⟨_,rfl⟩
       have hmb:m≤18446744065119617025:=by rw [hm]; exact mul_word _ _ hxl hyl
       have hmi:(x:Int)*(y:Int)=(m:Int):=by rw [hm]; exact (Int.natCast_mul _ _).symm
       have HM:=Lib.hid hm
       have HY:=Lib.hid hy
       have HZZ:=Lib.hid hz
       have HBUF2:=Lib.hid hbuf2
       obtain ⟨t,ht⟩:∃ t,t=d+m+z:=⟨_,rfl⟩
       have hti:(d:Int)+(m:Int)+(z:Int)=(t:Int):=by omega
       have htb:t≤18446744073709551615:=by omega
       have HT:=Lib.hid ht
       clear hY hall hbuf2 hm HBUF hy hz ht
       go_wp2
       go_region
       go_wp2
       go_roundw
       case rel =>
        refine ⟨k+1,t/4294967296,os'.set (i+k) (t % 4294967296),by omega,by omega,by go_num,by go_num,?_,?_,?_,?_,Below.setCell (Below.drew hb2) (Nat.le_refl _) _⟩
        · rw [Hid,List.length_set]; exact HK'.out
        · exact prod_val os os' ys i k d x _ (by rw [HK'.out]; omega) HV'.out (by rw [HT.out,HM.out,HY.out,HZZ.out]; omega)
        · intro j hj
          rw [getD_set,if_neg (by omega)]
          exact H0'.out j hj
        · exact (HBUF2.out.drewN 1).set (i+k) _ _ (by omega) (by go_num)
       case measure=>simp [intOf]; omega
     · obtain rfl:k=lb:=by omega
       have hst:=hbuf2.cell (i+k) (by rw [HK'.out]; omega)
       have hfz:=hbuf2.frozen (i+k)
       have HBUF2:=Lib.hid hbuf2
       clear hbuf2 HBUF
       go_wp2
       go_roundw
       case rel =>
        refine ⟨i+1,os'.set (i+k) d,by omega,by go_num,?_,?_,?_,HBUF2.out.set (i+k) d _ hd (by go_num),hb2.setCell (Nat.le_refl _) _⟩
        · rw [Hid,List.length_set]; exact HK'.out
        · have h1:=HV'.out
          rw [val_take_all ys k (by rw [hlb.out]; exact Nat.le_refl _),HXX.out] at h1
          have hl:=hlb.out
          have h2:=H0'.out (i+k) (Nat.le_refl _)
          rw [hl] at h1 h2 ⊢
          exact prod_end os os' xs ys i d (by rw [HK'.out]; omega) h2 HV.out h1
        · intro j hj
          rw [getD_set]
          split
          · omega
          · exact H0'.out j (by omega)
       case measure=>simp [intOf]; omega
  · obtain rfl:i=la:=by omega
    have hv:val os=val xs*val ys:=by
     have h1:=HV.out
     rwa [val_take_all xs _ (by rw [hla.out]; exact Nat.le_refl _)] at h1
    have hw:=hbuf'.words (cap:=i+lb) (by rw [HK.out]; omega) (by rw [HK.out]; exact Nat.le_refl _)
    have hdd:=dig_of os _ hbuf'.1 hv
    rw [HK.out] at hw
    have HW:=Lib.hid hw
    have HD:=Lib.hid hdd
    clear hw hbuf' hv hdd
    go_wp2_with fail
    refine (rcut_any HW.out).mono ?_
    rintro e w2 ⟨rfl,rfl⟩
    go_wp2
    go_ret
    refine ⟨_,rfl,?_,hb'⟩
    rw [← HD.out]
    exact HW.out.trim_
end
section
open Go.RowKit
theorem at_val {w:World} {A:Option Addr} {n cap:Nat} {xs:List Nat} (h:Words w (.slice A n cap) xs) (i x:Nat) (hi:i≤4611686018427387904) (hx:xs.getD i 0=x) (k:Nat) :
  Calls Tryz.prog 330 #[.slice A n cap,.int .i64 (i:Int)] (w.drewN k) fun e w'=>e=.returned (.int .u64 (x:Int))∧w'=w.drewN k :=
 (at_any (h.below (Below.drewN_ (Below.refl _ _) k)) i hi).mono fun e w' h=>⟨by rw [h.1,hx],h.2.symm⟩
theorem Row.on_ {w w':World} {base:Nat} {v:Value} {zs:List Nat} (h:Row w base v zs) (k:Below w.heap.size w w'):Row w' base v zs:=by
 obtain ⟨h0,h1,h2⟩:=h
 refine ⟨h0,h1,?_⟩
 rcases h2 with h2 | ⟨g,cap,cur,e,hg,hh,hc⟩
 · exact .inl h2
 · exact .inr ⟨g,cap,cur,e,hg,by rw [k.block g (heap_some_lt hh)]; exact hh,hc⟩
set_option maxHeartbeats 1600000 in
set_option maxRecDepth 100000 in
theorem down_any {A:Option Addr} {la ca:Nat} {xs:List Nat} {w:World} (hx:Words w (.slice A la ca) xs) (h1:la≤17179869184) (n:Nat) (hn:n≤1099511627776) :
  Calls Tryz.prog 367 #[.slice A la ca,.int .i64 (n:Int)] w fun e w'=>∃ v,e=.returned v∧Words w' v (dig (val xs/2^n))∧Below w.heap.size w w':=by
 have hla:=Lib.hid hx.len.1
 have HA:=Lib.hid hx
 have hwx:=Lib.hid hx.1
 obtain ⟨s,hs⟩:∃ s,s=n % 32:=⟨_,rfl⟩
 have hs32:s<32:=by omega
 have hsi:(n:Int) % 32=(s:Int):=by omega
 obtain ⟨q,hq⟩:∃ q,q=n/32:=⟨_,rfl⟩
 have hqi:(n:Int)/32=(q:Int):=by omega
 have hqb:q≤34359738368:=by omega
 obtain ⟨ys,hys⟩:∃ ys,ys=xs.drop q:=⟨_,rfl⟩
 have hwy:Hid (Wf ys):=by rw [hys]; exact hx.1.drop q
 have hly:Hid (ys.length=la-q):=by rw [hys,Hid,List.length_drop,hla.out]
 have HYX:Hid (∀ k,xs.getD (q+k) 0=ys.getD k 0):=by
  intro k
  rw [hys]
  simp [List.getD]
 have HV:Hid (val ys/2^s=val xs/2^n):=by
  rcases Nat.lt_or_ge q la with h | h
  · have:=shr_words xs n hx.1 (by rw [← hla.out]; omega)
    rw [Hid,hys,hs,hq]; exact this
  · have h2:=shr_none xs n hx.1 (by rw [← hla.out]; omega)
    rw [Hid,h2,hys,List.drop_of_length_le (by rw [← hla.out]; exact h)]
    simp [val]
 clear hx hs hq hys
 go_enter Tryz.func367,Tryz.ntmps367
 go_wp2
 go_loopw [5,6] (fun v i wr=>∃ (k:Nat),k≤la-q∧i=.int .i64 ((q+k:Nat):Int)∧Hid (Row wr w.heap.size v ((shrL s ys).take k))∧Below w.heap.size w wr) (fun _ i _=>la-(intOf i).toNat)
 case atStart=>exact ⟨0,by omega,by go_num,Row.nil _ _,Below.refl _ _⟩
 case round =>
  obtain ⟨k,hk,rfl,hrow,hb'⟩:=hrel
  have hlt:=hb'.size
  have hkl:Hid (((shrL s ys).take k).length=k):=by rw [Hid,List.length_take,shrL_length,hly.out]; omega
  by_cases hk1:q+k<la
  · have hX:=(HA.out.below hb')
    obtain ⟨b,o,rfl,hall⟩:=hX.open_ (by omega)
    obtain ⟨x,hx⟩:∃ x,x=xs.getD (q+k) 0:=⟨_,rfl⟩
    obtain ⟨x2,hx2⟩:∃ x,x=xs.getD (q+k+1) 0:=⟨_,rfl⟩
    have hcx:wr.cell? ⟨b,o+(q+k),none⟩=some (.int .u32 (x:Int)):=by rw [hx]; exact hall (q+k) hk1
    have hx32:x<4294967296:=by rw [hx]; exact hwx.out.getD _
    have hx232:x2<4294967296:=by rw [hx2]; exact hwx.out.getD _
    obtain ⟨t,ht⟩:∃ t,t=x2*4294967296+x:=⟨_,rfl⟩
    have hti:(x2:Int)*4294967296+(x:Int)=(t:Int):=by omega
    have hxb:(x2:Int)*4294967296≤18446744069414584320:=by omega
    have htb:t≤18446744073709551615:=by omega
    obtain ⟨u,hu⟩:∃ u,u=t/2^s:=⟨_,rfl⟩
    have hui:(t:Int)/2^s=(u:Int):=by rw [hu,Int.natCast_ediv,Int.natCast_pow]; rfl
    have hub:u≤18446744073709551615:=by rw [hu]; exact Nat.le_trans (Nat.div_le_self _ _) htb
    have HU:=Lib.hid hu
    have HT:=Lib.hid ht
    have HXX:=Lib.hid hx
    have HX2:=Lib.hid hx2
    have HXW:=Lib.hid hX
    have hki:((q+k:Nat):Int)+1=((q+k+1:Nat):Int):=by omega
    clear hX hall hx hx2 ht hu
    go_wp2
    go_quiet ((go_at_call 330; exact Calls.quiet_of_same (at_val HXW.out (q+k+1) x2 (by omega) HX2.out.symm _)))
    go_wp2_with (at_builtin; refine wpList_append_word rfl (.tmp 30) (.tmp 34) rfl w.heap.size _ ((shrL s ys).take k) rfl ((Row.on_ hrow.out (Below.drewN_ (Below.refl _ _) _)).alloc _) ⟨_,0,none⟩ 1 (u % 4294967296) _ rfl (cell_new0 _ _ _) ?_ (by omega) ?_ ?_ ?_)
    · omega
    · rw [hkl.out]; omega
    · simp; omega
    · intro v' w' hrow2 hb2
      have HR2:=Lib.hid hrow2
      have hb3:Below w.heap.size w w':=((Below.drewN_ hb' _).alloc (by simpa using hlt) _).trans hb2
      clear hrow2 hb2 hb'
      go_wp2
      go_roundw
      case rel =>
       refine ⟨k+1,by omega,by go_num,?_,hb3⟩
       have h:=HR2.out
       have e:((shrL s ys).take k)++[u % 4294967296]=(shrL s ys).take (k+1):=by
        rw [shrL_take s ys k (by rw [hly.out]; omega)]
        have e2:(ys.getD k 0+4294967296*ys.getD (k+1) 0)/2^s=u:=by
         rw [HU.out,HT.out,← HYX.out k,← HYX.out (k+1),← HXX.out,← Nat.add_assoc,← HX2.out,Nat.add_comm,Nat.mul_comm]
        rw [e2]
       rw [e] at h
       exact h
      case measure=>simp [intOf]; omega
  · have hke:k=la-q:=by omega
    have hw:=hrow.out.words (by rw [hkl.out]; omega)
    rw [List.take_of_length_le (by rw [shrL_length,hly.out]; omega)] at hw
    have HW:=Lib.hid hw
    obtain ⟨A',L',cap',rfl⟩:=hw.form
    clear hw hke
    go_wp2_with fail
    refine (rcut_any HW.out).mono ?_
    rintro e w2 ⟨rfl,rfl⟩
    go_wp2
    go_ret
    refine ⟨_,rfl,?_,hb'⟩
    rw [← HV.out,← val_shrL s ys hwy.out hs32,← dig_of _ _ (Wf_shrL s ys) rfl]
    exact HW.out.trim_
theorem Buf.window {w:World} {g j m L c:Nat} {us:List Nat} (h:Buf w g us) (hl:us.length=L) (hL:L≤17179869184) (hj:j+m≤L) (hm:0<m) (hc:m≤c):Words w (.slice (some ⟨g,j,none⟩) m c) ((us.drop j).take m):=by
 obtain ⟨hw,cs,h1,h2,h3⟩:=h
 have hlen:((us.drop j).take m).length=m:=by rw [List.length_take,List.length_drop]; omega
 refine ⟨(hw.drop j).take m,by rw [hlen]; omega,_,c,by rw [hlen],by rw [hlen]; exact hc,fun _=>⟨g,j,cs,_,rfl,h1,fun i hi=>?_⟩⟩
 rw [hlen] at hi
 rw [h3 (j+i) (by omega)]
 congr 3
 simp [List.getD,List.getElem?_take,hi]
theorem cmpN_le {n m:Nat}:cmpN n m≤0↔n≤m:=by
 unfold cmpN
 split
 · omega
 · split<;>omega
set_option maxHeartbeats 1600000 in
set_option maxRecDepth 100000 in
theorem fits_any {w:World} {Av:Option Addr} {n cv gu L j q V:Nat} {us:List Nat} (hv:Words w (.slice Av n cv) (dig V)) (hu:Buf w gu us) (hl:us.length=L) (hL:L≤8589934592) (hj:j+n+1≤L) (hn:n≤4294967296) (hq:q<4294967296) (r:Bool) (hr:decide (q*V≤val ((us.drop j).take (n+1)))=r) :
  Calls Tryz.prog 366 #[.slice (some ⟨gu,0,none⟩) L L,.slice Av n cv,.int .i64 (j:Int),.int .u64 (q:Int)] w fun e w'=>e=.returned (.bool r)∧Below w.heap.size w w':=by
 have HV:=Lib.hid hv
 have HU:=Lib.hid hu
 have HL:=Lib.hid hl
 obtain ⟨mid,hmid⟩:∃ mid,mid=(us.drop j).take (n+1):=⟨_,rfl⟩
 rw [← hmid] at hr
 have HR:=Lib.hid hr
 have HMID:=Lib.hid hmid
 have hwq:=words_one w q _ hq rfl
 have HWQ:=Lib.hid hwq
 have HB:=Lib.hid (below_new w (.cells #[.int .u32 (q:Int)] 278))
 have HV1:=Lib.hid (hv.below HB.out)
 clear hv hu hl hr hmid hwq
 go_enter Tryz.func366,Tryz.ntmps366
 go_wp2_with fail
 refine (rproduct_any HWQ.out HV1.out (by decide) (by omega)).mono ?_
 rintro e w2 ⟨v,rfl,h1,hb⟩
 obtain ⟨Ax,nx,cx,rfl⟩:=h1.form
 have HX:=Lib.hid h1
 have HB2:=Lib.hid (HB.out.trans (hb.mono HB.out.size))
 clear h1 hb
 have hwin:∀ c,n+1≤c→Words w2 (.slice (some ⟨gu,j,none⟩) (n+1) c) mid:=fun c hc=>by rw [HMID.out]; exact ((HU.out.on HB2.out).window HL.out (by omega) (by omega) (by omega) hc)
 have HWIN:=Lib.hid hwin
 clear hwin
 go_wp2_with fail
 rw [show j+n+1-j=n+1 by omega]
 refine (rcut_any (HWIN.out (L-j) (by omega))).mono ?_
 rintro e w3 ⟨rfl,rfl⟩
 have hmw:=HWIN.out (L-j) (by omega)
 have hd:trim mid=dig (val mid):=(dig_val mid hmw.1).symm
 have hcw:=(HWIN.out (L-j) (by omega)).trim_
 rw [hd] at hcw ⊢
 have HCW:=Lib.hid hcw
 clear hd hcw hmw
 go_wp2_with fail
 refine (runder_any HX.out HCW.out).mono ?_
 rintro e w4 ⟨rfl,hdr⟩
 have HB4:=Lib.hid (HB2.out.trans (hdr.below _))
 have hcv:val [q]*val (dig V)=q*V:=by rw [val_dig]; simp [val]
 rw [hcv]
 have hkk:decide (cmpN (q*V) (val mid)≤0)=r:=by rw [← HR.out]; exact decide_eq_decide.2 cmpN_le
 have HKK:=Lib.hid hkk
 clear hdr hcv hkk
 go_wp2
 go_ret
 refine ⟨?_,HB4.out⟩
 rw [← HKK.out]
 rfl
end
end Go.Proofs.YthkpghhoffihmaaGreatDoor
end
