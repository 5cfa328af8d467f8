/- SyS, SyC, BigA. -/
import Derived.BigQuiet
import Derived.Deep.QuietTactic
import Derived.WalkSpells
import Derived.WalkLawsBesides
import Derived.Test.YtmfedaakeeiolaaGreatProg
import Derived.Test.YtmfedaakeeiolaaGreatQk4
set_option linter.unnecessarySimpa false
set_option linter.unusedVariables false
set_option linter.unusedSimpArgs false
section
namespace Go.Proofs.YtmfedaakeeiolaaGreat.Y
open Go Go.RowKit
def Lf0.ren (ρ:Nat→Nat):Lf0→Lf0
 | .v x=>.v x
 | .p k o=>.p (ρ k) o
 | .s k o n c=>.s (ρ k) o n c
 | .z k i=>.z (ρ k) i
 | .y k i n=>.y (ρ k) i n
 | .r k n=>.r (ρ k) n
 | .gh k i=>.gh (ρ k) i
def Lf.ren (ρ:Nat→Nat):Lf→Lf
 | .b l=>.b (l.ren ρ)
 | .f fn x y=>.f fn (x.map (Lf0.ren ρ)) (y.map (Lf0.ren ρ))
def SC.ren (ρ:Nat→Nat):SC→SC
 | .c l=>.c (l.ren ρ)
 | .a ls=>.a (ls.map (Lf.ren ρ))
def SV.ren (ρ:Nat→Nat):SV→SV
 | .one x=>.one (x.ren ρ)
 | .tup xs=>.tup (xs.map (SC.ren ρ))
theorem Lf0.den_ren (β:Env) (ρ:Nat→Nat) (x:Lf0):(x.ren ρ).den β=x.den (fun k=>β (ρ k)):=by cases x<;>rfl
theorem Lf.den_ren (β:Env) (ρ:Nat→Nat) (x:Lf):(x.ren ρ).den β=x.den (fun k=>β (ρ k)):=by
 cases x with
 | b l=>exact Lf0.den_ren β ρ l
 | f fn x y=>simp only [Lf.ren,Lf.den,List.map_map,Function.comp_def,Lf0.den_ren]
theorem SC.den_ren (β:Env) (ρ:Nat→Nat) (x:SC):(x.ren ρ).den β=x.den (fun k=>β (ρ k)):=by
 cases x with
 | c l=>exact Lf.den_ren β ρ l
 | a ls=>simp only [SC.ren,SC.den,List.map_map,Function.comp_def,Lf.den_ren]
theorem SV.den_ren (β:Env) (ρ:Nat→Nat) (x:SV):(x.ren ρ).den β=x.den (fun k=>β (ρ k)):=by
 cases x with
 | one y=>exact SC.den_ren β ρ y
 | tup xs=>simp only [SV.ren,SV.den,List.map_map,Function.comp_def,SC.den_ren]
theorem all_both {α:Type} {f g h:α→Bool} {l:List α} (hf:l.all f=true) (hg:l.all g=true) (hh:∀ x,f x=true→g x=true→h x=true):l.all h=true :=
 List.all_eq_true.2 fun x hx=>hh x (List.all_eq_true.1 hf x hx) (List.all_eq_true.1 hg x hx)
theorem Lf0.of_and {q q':Nat→Bool}:∀ x:Lf0,x.of q=true→x.of q'=true→x.of (fun k=>q k&&q' k)=true
 | .v _,_,_=>rfl
 | .p _ _,h,k=>Bool.and_eq_true_iff.2 ⟨h,k⟩
 | .s _ _ _ _,h,k=>Bool.and_eq_true_iff.2 ⟨h,k⟩
 | .z _ _,h,k=>Bool.and_eq_true_iff.2 ⟨h,k⟩
 | .y _ _ _,h,k=>Bool.and_eq_true_iff.2 ⟨h,k⟩
 | .r _ _,h,k=>Bool.and_eq_true_iff.2 ⟨h,k⟩
 | .gh _ _,h,k=>Bool.and_eq_true_iff.2 ⟨h,k⟩
theorem Lf.of_and {q q':Nat→Bool}:∀ x:Lf,x.of q=true→x.of q'=true→x.of (fun k=>q k&&q' k)=true
 | .b l,h,k=>Lf0.of_and l h k
 | .f _ x y,h,k=>by
  unfold Lf.of at h k ⊢
  rw [Bool.and_eq_true] at h k ⊢
  exact ⟨all_both h.1 k.1 Lf0.of_and,all_both h.2 k.2 Lf0.of_and⟩
theorem SC.of_and {q q':Nat→Bool}:∀ x:SC,x.of q=true→x.of q'=true→x.of (fun k=>q k&&q' k)=true
 | .c l,h,k=>Lf.of_and l h k
 | .a _,h,k=>all_both h k Lf.of_and
theorem SV.of_and {q q':Nat→Bool}:∀ x:SV,x.of q=true→x.of q'=true→x.of (fun k=>q k&&q' k)=true
 | .one x,h,k=>SC.of_and x h k
 | .tup _,h,k=>all_both h k SC.of_and
def freshS (β:Env) (w:World) (m:Nat) (xs:List Pl):Prop:=∀ x∈xs,∀ c,x.F c→w.heap.size≤c∨∃ i,i<m∧(β i).F c
structure Spec (P:Program) where
 f:FuncId
 en:Enters P f
 args:List SV
 obs:List Thing
 res:SV
 news:List Thing
 ok:∀ β w,(∀ (k:Nat) (t:Thing),obs[k]?=some t→t.D w (β k))→Calls P f (args.map (SV.den β)).toArray w fun e w'=>∃ xs:List Pl,freshS β w obs.length xs∧e=.returned (res.den (extE β obs.length xs))∧newHold w' news xs∧Below w.heap.size w w'
 closed:(args.all (SV.of fun k=>Nat.blt k obs.length)&&res.of fun k=>Nat.blt k (obs.length+news.length))=true
def atS (σ:List Nat) (m n k:Nat):Nat:=lit (bif Nat.blt k m then σ.getD k 0 else n+(k-m)) fun j=>j
def atN (β:Env) (j:Nat):Pl:=bif Nat.beq j 2000000 then nilPl else β j
def needsOf (σ:List Nat):List Thing→Nat→List (Nat × Ob)
 | [],_=>[]
 | t::r,k=>lit (σ.getD k 0) fun j=>bif Nat.beq j 2000000 then needsOf σ r (k+1) else (j,t.ob)::needsOf σ r (k+1)
def okS (σ:List Nat) (n:Nat):List Thing→Nat→Bool
 | [],_=>true
 | t::r,k=>(bif Nat.beq (σ.getD k 0) 2000000 then t.nl else Nat.blt (σ.getD k 0) n)&&okS σ n r (k+1)
theorem needsOf_hold {β:Env} {w:World} {σ:List Nat} {n:Nat}:∀ {l:List Thing} {i:Nat},holdsAll β w (needsOf σ l i)→okS σ n l i=true→∀ (k:Nat) (t:Thing),l[k]?=some t→t.D w (atN β (σ.getD (i+k) 0))
 | [],_,_,_,k,t,h=>by simp at h
 | x::r,i,h,ho,k,t,hk=>by
  unfold okS at ho
  rw [Bool.and_eq_true] at ho
  unfold needsOf at h
  rw [lit_eq] at h
  cases hb:Nat.beq (σ.getD i 0) 2000000 with
  | true =>
   rw [hb,cond_true] at h
   rw [hb,cond_true] at ho
   cases k with
   | zero =>
    simp only [List.getElem?_cons_zero] at hk
    obtain rfl:=Option.some.inj hk
    unfold atN
    rw [Nat.add_zero,hb,cond_true]
    exact x.nlok ho.1 w
   | succ k =>
    have:=needsOf_hold (l:=r) (i:=i+1) h ho.2 k t (by simpa using hk)
    rw [show i+(k+1)=i+1+k by omega]
    exact this
  | false =>
   rw [hb,cond_false] at h
   cases k with
   | zero =>
    simp only [List.getElem?_cons_zero] at hk
    obtain rfl:=Option.some.inj hk
    unfold atN
    rw [Nat.add_zero,hb,cond_false]
    exact h _ (List.mem_cons_self ..)
   | succ k =>
    have:=needsOf_hold (l:=r) (i:=i+1) (fun p hp=>h p (List.mem_cons_of_mem _ hp)) ho.2 k t (by simpa using hk)
    rw [show i+(k+1)=i+1+k by omega]
    exact this
theorem needsOf_mem {σ:List Nat}:∀ {l:List Thing} {k i:Nat},i<l.length→Nat.beq (σ.getD (k+i) 0) 2000000=false→∃ t:Thing,(σ.getD (k+i) 0,t.ob)∈needsOf σ l k
 | t::r,k,0,_,hb=>⟨t,by
  rw [Nat.add_zero] at hb
  unfold needsOf
  rw [lit_eq,hb,cond_false]
  exact List.mem_cons_self ..⟩
 | t::r,k,i+1,h,hb=>by
  obtain ⟨u,hu⟩:=needsOf_mem (σ:=σ) (l:=r) (k:=k+1) (i:=i) (by simpa using h) (by rw [← hb,show k+1+i=k+(i+1) by omega])
  refine ⟨u,?_⟩
  unfold needsOf
  rw [show k+(i+1)=k+1+i by omega,lit_eq]
  cases Nat.beq (σ.getD k 0) 2000000
  · exact List.mem_cons_of_mem _ hu
  · exact hu
theorem okS_at {σ:List Nat} {n:Nat}:∀ {l:List Thing} {k i:Nat},okS σ n l k=true→i<l.length→Nat.beq (σ.getD (k+i) 0) 2000000=false→σ.getD (k+i) 0<n
 | t::r,k,0,h,_,hb=>by
  unfold okS at h
  rw [Nat.add_zero] at hb ⊢
  rw [Bool.and_eq_true,hb,cond_false,Nat.blt_eq] at h
  exact h.1
 | t::r,k,i+1,h,hi,hb=>by
  unfold okS at h
  rw [Bool.and_eq_true] at h
  rw [show k+(i+1)=k+1+i by omega] at hb ⊢
  exact okS_at h.2 (by simpa using hi) hb
def Spec.ev {P:Program} (S:Spec P) (σ:List Nat) (n:Nat) (hσ:(okS σ n S.obs 0&&S.res.of fun k=>!(Nat.blt k S.obs.length&&Nat.beq (σ.getD k 0) 2000000))=true):Ev P :=
 .call S.f S.en (fun β=>(S.args.map (SV.den fun k=>atN β (atS σ S.obs.length n k))).toArray) (needsOf σ S.obs 0) n (S.res.ren (atS σ S.obs.length n)) S.news fun β w h=>by
  have hc:=S.closed
  rw [Bool.and_eq_true] at hc hσ
  have hat:∀ k,k<S.obs.length→atS σ S.obs.length n k=σ.getD k 0:=fun k hk=>by
   unfold atS
   rw [lit_eq,show Nat.blt k S.obs.length=true by rw [Nat.blt_eq]; exact hk,cond_true]
  have hat2:∀ k,¬ k<S.obs.length→atS σ S.obs.length n k=n+(k-S.obs.length):=fun k hk=>by
   unfold atS
   rw [lit_eq,show Nat.blt k S.obs.length=false by rw [Bool.eq_false_iff,ne_eq,Nat.blt_eq]; exact hk,cond_false]
  have hargs:S.args.map (SV.den fun k=>atN β (atS σ S.obs.length n k))=S.args.map (SV.den fun k=>atN β (σ.getD k 0)):=List.map_congr_left fun x hx=>SV.den_congr (fun k hk=>by rw [hat k (by simpa [Nat.blt_eq] using hk)]) _ (List.all_eq_true.1 hc.1 x hx)
  rw [hargs]
  refine (S.ok (fun k=>atN β (σ.getD k 0)) w fun k t hk=>?_).mono ?_
  · have:=needsOf_hold h hσ.1 k t hk
    rwa [Nat.zero_add] at this
  · rintro e w' ⟨xs,h1,rfl,h3,h4⟩
    refine ⟨xs,fun x hx c hc=>?_,?_,h3,h4⟩
    · rcases h1 x hx c hc with h5 | ⟨i,i1,i2⟩
      · exact .inl h5
      refine .inr ?_
      unfold atN at i2
      dsimp only at i2
      cases hb:Nat.beq (σ.getD i 0) 2000000 with
      | true =>
       rw [hb] at i2
       exact i2.elim
      | false =>
       rw [hb] at i2
       obtain ⟨t,ht⟩:=needsOf_mem (σ:=σ) (l:=S.obs) (k:=0) i1 (by rw [Nat.zero_add]; exact hb)
       rw [Nat.zero_add] at ht
       exact ⟨_,ht,rfl,i2⟩
    rw [SV.den_ren]
    congr 1
    have hboth:S.res.of (fun k=>Nat.blt k (S.obs.length+S.news.length)&&!(Nat.blt k S.obs.length&&Nat.beq (σ.getD k 0) 2000000))=true:=SV.of_and _ hc.2 hσ.2
    refine SV.den_congr (fun k hk=>?_) _ hboth
    have hlen:=(newHold_get h3).1
    rw [Bool.and_eq_true,Nat.blt_eq] at hk
    by_cases hk2:k<S.obs.length
    · have hb:Nat.beq (σ.getD k 0) 2000000=false:=by
       have:=hk.2
       rw [show Nat.blt k S.obs.length=true by rw [Nat.blt_eq]; exact hk2,Bool.true_and] at this
       cases h5:Nat.beq (σ.getD k 0) 2000000 with
       | false=>rfl
       | true=>rw [h5] at this; cases this
      have hlt:=okS_at (k:=0) hσ.1 hk2 (by rw [Nat.zero_add]; exact hb)
      rw [Nat.zero_add] at hlt
      rw [hat k hk2,extE_out (β:=β) (n:=n) (k:=σ.getD k 0) (xs:=xs) (by omega),extE_out (n:=S.obs.length) (k:=k) (xs:=xs) (by omega)]
      unfold atN
      rw [hb,cond_false]
    · rw [hat2 k hk2]
      have h5:k-S.obs.length<xs.length:=by omega
      rw [extE_in (List.getElem?_eq_getElem h5)]
      have:=extE_in (β:=fun k=>atN β (σ.getD k 0)) (n:=S.obs.length) (List.getElem?_eq_getElem h5)
      rw [show S.obs.length+(k-S.obs.length)=k by omega] at this
      exact this
def mt0:Lf0→Lf0→List (Nat × Nat)
 | .p k _,.p j _=>[(k,j)]
 | .s k _ _ _,.s j _ _ _=>[(k,j)]
 | .z k _,.z j _=>[(k,j)]
 | .y k _ _,.y j _ _=>[(k,j)]
 | .r k _,.r j _=>[(k,j)]
 | .z k _,.p j _=>[(k,j)]
 | .z k _,.v (.pointer none)=>[(k,2000000)]
 | _,_=>[]
def mtL0:List Lf0→List Lf0→List (Nat × Nat)
 | x::r,y::s=>mt0 x y++mtL0 r s
 | _,_=>[]
def mtL:Lf→Lf→List (Nat × Nat)
 | .b x,.b y=>mt0 x y
 | .f _ a b,.f _ c d=>mtL0 a c++mtL0 b d
 | _,_=>[]
def mtLs:List Lf→List Lf→List (Nat × Nat)
 | x::r,y::s=>mtL x y++mtLs r s
 | _,_=>[]
def mtC:SC→SC→List (Nat × Nat)
 | .c x,.c y=>mtL x y
 | .a x,.a y=>mtLs x y
 | _,_=>[]
def mtV:SV→SV→List (Nat × Nat)
 | .one x,.one y=>mtC x y
 | _,_=>[]
def mtVs:List SV→List SV→List (Nat × Nat)
 | x::r,y::s=>mtV x y++mtVs r s
 | _,_=>[]
def sigM (l:List (Nat × Nat)) (k:Nat):Nat:=match l with
 | []=>0
 | (i,j)::r=>bif Nat.beq i k then j else sigM r k
def sigL (l:List (Nat × Nat)) (k:Nat):Nat→List Nat
 | 0=>[]
 | m+1=>lit (sigM l k) (fun j=>j::sigL l (k+1) m)
def isCallB (o:Oper):Bool:=match o.op with
 | .call ⟨.value _,_,_⟩=>true
 | _=>false
def Spec.e {P:Program} (S:Spec P):Ev P:=.dyn (fun o _ _=>isCallB o) fun _ xs ob =>
 lit ob.length fun n=>if h:(okS (sigL (mtVs S.args xs) 0 S.obs.length) n S.obs 0&&S.res.of fun k=>!(Nat.blt k S.obs.length&&Nat.beq ((sigL (mtVs S.args xs) 0 S.obs.length).getD k 0) 2000000))=true then S.ev (sigL (mtVs S.args xs) 0 S.obs.length) n h else .eqv 0 undef undef rfl
def ptOf:SV→Nat
 | .one (.c (.b (.p k _)))=>k
 | .one (.c (.b (.z k _)))=>k
 | _=>0
def dyn1 {P:Program} (f:Nat→Nat→Ev P):Ev P:=.dyn (fun o _ _=>isCallB o) fun _ xs ob=>lit ob.length fun n=>lit (ptOf (xs.getD 0 undefS)) fun i=>f i n
def dyn2 {P:Program} (f:Nat→Nat→Nat→Ev P):Ev P:=.dyn (fun o _ _=>isCallB o) fun _ xs ob=>lit ob.length fun n=>lit (ptOf (xs.getD 0 undefS)) fun i=>lit (ptOf (xs.getD 1 undefS)) fun k=>f i n k
def dyn3 {P:Program} (f:Nat→Nat→Nat→Nat→Ev P):Ev P:=.dyn (fun o _ _=>isCallB o) fun _ xs ob=>lit ob.length fun n=>lit (ptOf (xs.getD 0 undefS)) fun i=>lit (ptOf (xs.getD 1 undefS)) fun k=>lit (ptOf (xs.getD 2 undefS)) fun j=>f i n k j
def dynMk {P:Program} (t:TypeId) (N:Nat):Ev P:=.dyn (fun o _ _=>match o.op with
 | .alloc t'=>Nat.beq t' t
 | _=>false) fun o _ _=>.mk (o.dst.getD 0) N
def backS (m:Nat) (idx:List Nat) (k:Nat):Nat:=lit (bif Nat.blt k m then k else idx.getD (k-m) 0) fun j=>j
def specS (P:Program) (fn:Func) (args:List SV) (obs:List Thing) (evs:List (Ev P)) (Ns:List (Nat × Nat)) (m:Nat) (res:SV) (news:List Thing) (idx:List Nat) (β:Env):Eqs :=
 allS P fn args (obs.map Thing.ob) evs Ns m (res.ren (backS obs.length idx)) (idx.zip (news.map Thing.ob)) β
theorem newHold_of {β:Env} {w:World}:∀ {idx:List Nat} {l:List Thing},idx.length=l.length→holdsAll β w (idx.zip (l.map Thing.ob))→newHold w l (idx.map β)
 | [],[],_,_=>trivial
 | [],_::_,h,_=>by simp at h
 | _::_,[],h,_=>by simp at h
 | i::r,t::l,h,k=>⟨k (i,t.ob) (by simp),newHold_of (by simpa using h) fun p hp=>k p (by simp only [List.map_cons,List.zip_cons_cons]; exact List.mem_cons_of_mem _ hp)⟩
def specB (args:List SV) (obs:List Thing) (res:SV) (news:List Thing) (idx:List Nat):Bool :=
 args.all (SV.of fun k=>Nat.blt k obs.length)&&(res.of fun k=>Nat.blt k (obs.length+news.length))&&Nat.beq idx.length news.length
theorem spec_ok {P:Program} {f:FuncId} {fn:Func} {args:List SV} {obs:List Thing} {evs:List (Ev P)} {Ns:List (Nat × Nat)} {m:Nat} {res:SV} {news:List Thing} {idx:List Nat} (hf:P.funcs[f]?=some fn) (hm:P.follows .mixedOrders=true)
  (h:∀ β,(specS P fn args obs evs Ns m res news idx β).map Prod.fst=(specS P fn args obs evs Ns m res news idx β).map Prod.snd) (hB:specB args obs res news idx=true) (β:Env) (w:World) (hh:∀ (k:Nat) (t:Thing),obs[k]?=some t→t.D w (β k)) :
  Calls P f (args.map (SV.den β)).toArray w fun e w'=>∃ xs:List Pl,freshS β w obs.length xs∧e=.returned (res.den (extE β obs.length xs))∧newHold w' news xs∧Below w.heap.size w w':=by
 simp only [specB,Bool.and_eq_true,Nat.beq_eq] at hB
 obtain ⟨⟨h1,h2⟩,h3⟩:=hB
 have hget:∀ (k:Nat) (o:Ob),(obs.map Thing.ob)[k]?=some o→∃ t,obs[k]?=some t∧o=t.ob:=fun k o ho=>by
  rw [List.getElem?_map] at ho
  cases hx:obs[k]? with
  | none=>rw [hx] at ho; cases ho
  | some t=>rw [hx] at ho; exact ⟨t,rfl,(Option.some.inj ho).symm⟩
 refine (sx (P:=P) args (obs.map Thing.ob) evs Ns m (res.ren (backS obs.length idx)) (idx.zip (news.map Thing.ob)) hf hm (fun β=>ok_of_maps (h β)) (by rw [List.length_map]; exact h1)
  (List.all_eq_true.2 fun x hx=>by obtain ⟨t,_,rfl⟩:=List.mem_map.1 hx; rfl) β w (fun k o ho=>?_)).mono ?_
 · obtain ⟨t,ht,rfl⟩:=hget k o ho
   exact hh k t ht
 · rintro e w' ⟨β',q,obj,e1,rfl,e2,e4,e5,g⟩
   rw [List.length_map] at e1
   have hz:(idx.zip (news.map Thing.ob)).map (fun p=>β' p.1)=idx.map β':=by
    rw [show (fun p:Nat × Ob=>β' p.1)=β' ∘ Prod.fst from rfl,← List.map_map,List.map_fst_zip (by rw [List.length_map]; omega)]
   refine ⟨idx.map β',fun x hx=>?_,?_,newHold_of h3 e5,g.bel⟩
   · rw [← hz] at hx
     obtain ⟨p,hp,rfl⟩:=List.mem_map.1 hx
     have:=e4 p hp
     rw [List.length_map] at this
     exact this
   · rw [SV.den_ren]
     congr 1
     refine SV.den_congr (fun k hk=>?_) _ h2
     rw [Nat.blt_eq] at hk
     unfold backS
     rw [lit_eq]
     by_cases hk2:k<obs.length
     · rw [show Nat.blt k obs.length=true by rw [Nat.blt_eq]; exact hk2,cond_true,extE_out (by omega)]
       exact e1 k hk2
     · rw [show Nat.blt k obs.length=false by rw [Bool.eq_false_iff,ne_eq,Nat.blt_eq]; exact hk2,cond_false]
       have h5:k-obs.length<idx.length:=by omega
       have:=extE_in (β:=β) (n:=obs.length) (xs:=idx.map β') (i:=k-obs.length) (x:=β' idx[k-obs.length]) (by simp [h5])
       rw [show obs.length+(k-obs.length)=k by omega] at this
       rw [this,List.getD_eq_getElem?_getD,List.getElem?_eq_getElem h5,Option.getD_some]
def mtCs:List SC→List SC→List (Nat × Nat)
 | x::r,y::s=>mtC x y++mtCs r s
 | _,_=>[]
def mtR:SV→SV→List (Nat × Nat)
 | .one x,.one y=>mtC x y
 | .tup xs,.tup ys=>mtCs xs ys
 | _,_=>[]
def lits {α:Type}:List Nat→(List Nat→α)→α
 | [],k=>k []
 | a::r,k=>lit a fun b=>lits r fun s=>k (b::s)
theorem lits_eq {α:Type}:∀ (l:List Nat) (k:List Nat→α),lits l k=k l
 | [],_=>rfl
 | a::r,k=>by unfold lits; rw [lit_eq,lits_eq r]
theorem sigL_len (l:List (Nat × Nat)):∀ (m k:Nat),(sigL l k m).length=m
 | 0,_=>rfl
 | m+1,k=>by unfold sigL; rw [lit_eq,List.length_cons,sigL_len l m]
def idxM (P:Program) (fn:Func) (args:List SV) (obs:List Thing) (evs:List (Ev P)) (Ns:List (Nat × Nat)) (m:Nat) (res:SV):List (Nat × Nat) :=
 match fn.body with
 | some c=>match fullS P fn args (obs.map Thing.ob) evs Ns m c with
  | some f=>match run1 P obs.length false (results fn (tmpsS idE f.sl (sizeS fn args))) f.q f.ob [] with
   | some ⟨v,_,_,_⟩=>mtR res (tag v)
   | none=>[]
  | none=>[]
 | none=>[]
def specA (P:Program) (fn:Func) (args:List SV) (obs:List Thing) (evs:List (Ev P)) (Ns:List (Nat × Nat)) (m:Nat) (res:SV) (news:List Thing) (β:Env):Eqs :=
 lits (sigL (idxM P fn args obs evs Ns m res) obs.length news.length) fun idx=>specS P fn args obs evs Ns m res news idx β
def specB2 (args:List SV) (obs:List Thing) (res:SV) (news:List Thing):Bool :=
 args.all (SV.of fun k=>Nat.blt k obs.length)&&res.of fun k=>Nat.blt k (obs.length+news.length)
theorem spec_auto {P:Program} {f:FuncId} {fn:Func} {args:List SV} {obs:List Thing} {evs:List (Ev P)} {Ns:List (Nat × Nat)} {m:Nat} {res:SV} {news:List Thing} (hf:P.funcs[f]?=some fn) (hm:P.follows .mixedOrders=true)
  (h:∀ β,(specA P fn args obs evs Ns m res news β).map Prod.fst=(specA P fn args obs evs Ns m res news β).map Prod.snd) (hB:specB2 args obs res news=true) (β:Env) (w:World) (hh:∀ (k:Nat) (t:Thing),obs[k]?=some t→t.D w (β k)) :
  Calls P f (args.map (SV.den β)).toArray w fun e w'=>∃ xs:List Pl,freshS β w obs.length xs∧e=.returned (res.den (extE β obs.length xs))∧newHold w' news xs∧Below w.heap.size w w' :=
 spec_ok (idx:=sigL (idxM P fn args obs evs Ns m res) obs.length news.length) hf hm (fun β=>by have:=h β; unfold specA at this; rwa [lits_eq] at this) (by
  unfold specB
  unfold specB2 at hB
  rw [hB,sigL_len,Bool.true_and]
  exact Nat.beq_refl _) β w hh
def Spec.auto {P:Program} {f:FuncId} {fn:Func} (en:Enters P f) (args:List SV) (obs:List Thing) (res:SV) (news:List Thing) (evs:List (Ev P)) (Ns:List (Nat × Nat)) (m:Nat) (hf:P.funcs[f]?=some fn) (hm:P.follows .mixedOrders=true)
  (hB:specB2 args obs res news=true) (h:∀ β,(specA P fn args obs evs Ns m res news β).map Prod.fst=(specA P fn args obs evs Ns m res news β).map Prod.snd):Spec P :=
 ⟨f,en,args,obs,res,news,spec_auto hf hm h hB,hB⟩
inductive Stop (P:Program) where
 | ended (f:Cf P)
 | head (c:Code) (ks:List Kf) (f:Cf P)
def Stop.cf {P:Program}:Stop P→Cf P
 | .ended f=>f
 | .head _ _ f=>f
def runP (P:Program) (m0 n:Nat) (Ns:List (Nat × Nat)):Nat→Option Code→List Kf→Cf P→Option (Stop P)
 | 0,_,_,_=>none
 | m+1,oc,ks,f=>match oc with
  | none=>match ks with
   | []=>some (.ended f)
   | .sq c::r=>runP P m0 n Ns m (some c) r f
   | .bl _::r=>runP P m0 n Ns m none r f
   | .lp c::r=>match f.ev with
    | .cut::ev'=>some (.head c r { f with ev:=ev' })
    | _=>runP P m0 n Ns m (some c) (.lp c::r) f
   | .sc::r=>runP P m0 n Ns m none r f
  | some c=>match c with
   | .skip=>runP P m0 n Ns m none ks f
   | .label _=>runP P m0 n Ns m none ks f
   | .region id ops d=>match (bif d then drawS1 P m0 n Ns id ops.toList f else seqS P m0 n ops ops.toList f) with
    | some f'=>runP P m0 n Ns m none ks f'
    | none=>none
   | .seq a b=>runP P m0 n Ns m (some a) (.sq b::ks) f
   | .cond x a b=>match evS idE f.sl x with
    | .bool true=>runP P m0 n Ns m (some a) ks { f with cs:=(fun β=>[(.v (evS β f.sl x),.v (.bool true))])::f.cs }
    | .bool false=>runP P m0 n Ns m (some b) ks { f with cs:=(fun β=>[(.v (evS β f.sl x),.v (.bool false))])::f.cs }
    | _=>none
   | .block id c=>runP P m0 n Ns m (some c) (.bl id::ks) f
   | .loop c=>match f.ev with
    | .cut::ev'=>some (.head c ks { f with ev:=ev' })
    | _=>runP P m0 n Ns m (some c) (.lp c::ks) f
   | .scope c=>runP P m0 n Ns m (some c) (.sc::ks) f
   | .exit id=>match popTo id ks with
    | some r=>runP P m0 n Ns m none r f
    | none=>none
   | .ret=>some (.ended f)
   | _=>none
def Stop.after {P:Program} (Q:Exit→Act→World→Prop) (a:Act) (w:World):Stop P→Prop
 | .ended _=>Q .normal a w∧Q .ret a w
 | .head c ks _=>Rounds P c (post P Q ks) a w
theorem Sync.ev {P:Program} {m0 n:Nat} {B0:Bd} {w0:World} {c:Cf P} {β:Env} {a:Act} {w:World} (h:Sync P m0 n B0 w0 c β a w) (x:List (Ev P)):Sync P m0 n B0 w0 { c with ev:=x } β a w:=⟨h.good,h.q,h.sl,h.of,h.m0,h.defers,h.uq⟩
theorem runP_ok {P:Program} {m0 n:Nat} {Ns:List (Nat × Nat)} (hm:P.follows .mixedOrders=true):∀ (m:Nat) (oc:Option Code) (ks:List Kf) (f:Cf P) (s:Stop P),runP P m0 n Ns m oc ks f=some s→f.full→(∀ x∈f.cs,x∈s.cf.cs)∧s.cf.full ∧
  (s.cf.good→∀ {B0:Bd} {w0:World} {β:Env} {a:Act} {w:World},Sync P m0 n B0 w0 f β a w→∀ (Q:Exit→Act→World→Prop),(∀ β' a' w',(∀ k,k<B0.k→β' k=β k)→Sync P m0 n B0 w0 s.cf β' a' w'→s.after Q a' w')→toShow P Q oc ks a w):=by
 intro m
 induction m with
 | zero=>intro oc ks f f' h; simp only [runP] at h; cases h
 | succ m ih =>
  intro oc ks f f' h hf
  simp only [runP] at h
  cases oc with
  | none =>
   dsimp only at h
   cases ks with
   | nil =>
    obtain rfl:=Option.some.inj h
    exact ⟨fun _ hx=>hx,hf,fun _ B0 w0 β a w s Q hQ=>(hQ β a w (fun _ _=>rfl) s).1⟩
   | cons x r =>
    cases x with
    | sq c=>obtain ⟨i1,i2,i3⟩:=ih _ _ _ _ h hf; exact ⟨i1,i2,fun hg B0 w0 β a w s Q hQ=>i3 hg s Q hQ⟩
    | bl j =>
     obtain ⟨i1,i2,i3⟩:=ih _ _ _ _ h hf
     exact ⟨i1,i2,fun hg B0 w0 β a w s Q hQ=>i3 hg s Q hQ⟩
    | lp c =>
     dsimp only at h
     split at h
     · obtain rfl:=Option.some.inj h
       exact ⟨fun _ hx=>hx,hf,fun _ B0 w0 β a w s Q hQ=>hQ β a w (fun _ _=>rfl) (s.ev _)⟩
     · obtain ⟨i1,i2,i3⟩:=ih _ _ _ _ h hf
       exact ⟨i1,i2,fun hg B0 w0 β a w s Q hQ=>rounds_one (i3 hg s Q hQ)⟩
    | sc=>obtain ⟨i1,i2,i3⟩:=ih _ _ _ _ h hf; exact ⟨i1,i2,fun hg B0 w0 β a w s Q hQ=>i3 hg s Q hQ⟩
  | some c =>
   cases c with
   | skip=>obtain ⟨i1,i2,i3⟩:=ih _ _ _ _ h hf; exact ⟨i1,i2,fun hg B0 w0 β a w s Q hQ=>wp_skip (i3 hg s Q hQ)⟩
   | label l=>obtain ⟨i1,i2,i3⟩:=ih _ _ _ _ h hf; exact ⟨i1,i2,fun hg B0 w0 β a w s Q hQ=>wp_label (i3 hg s Q hQ)⟩
   | region rid ops d =>
    dsimp only at h
    split at h
    · rename_i f1 h1
      cases d with
      | true =>
       simp only [cond_true] at h1
       have hf1:=drawS1_full h1 hf
       obtain ⟨i1,i2,i3⟩:=ih _ _ _ _ h hf1
       obtain ⟨j1,j2⟩:=drawS1_ok hm h1 (fun k hk=>(hf.1 k).1 hk) hf.2
       refine ⟨fun x hx=>i1 x (j1 x hx),i2,fun hg B0 w0 β a w s Q hQ=>?_⟩
       have:=j2 (fun β x hx=>hg β x (i1 x hx)) s (post P Q ks) fun β' a' w' e s'=>i3 hg s' Q fun β2 a2 w2 e2 s2=>hQ β2 a2 w2 (fun k hk=>(e2 k hk).trans (e k hk)) s2
       unfold RegAny at this
       simp only [Array.toArray_toList] at this
       exact wp_region_any hm this
      | false =>
       simp only [cond_false] at h1
       have hf1:=seqS_full h1 hf
       obtain ⟨i1,i2,i3⟩:=ih _ _ _ _ h hf1
       obtain ⟨j1,j2⟩:=seqS_ok h1
       exact ⟨fun x hx=>i1 x (j1 x hx),i2,fun hg B0 w0 β a w s Q hQ=>wp_region_list (j2 (fun β x hx=>hg β x (i1 x hx)) s (post P Q ks) fun β' a' w' e s'=>i3 hg s' Q fun β2 a2 w2 e2 s2=>hQ β2 a2 w2 (fun k hk=>(e2 k hk).trans (e k hk)) s2)⟩
    · cases h
   | seq c d=>obtain ⟨i1,i2,i3⟩:=ih _ _ _ _ h hf; exact ⟨i1,i2,fun hg B0 w0 β a w s Q hQ=>wp_seq (i3 hg s Q hQ)⟩
   | cond x c d =>
    dsimp only at h
    split at h
    · obtain ⟨i1,i2,i3⟩:=ih _ _ _ _ h hf
      refine ⟨fun y hy=>i1 y (List.mem_cons_of_mem _ hy),i2,fun hg B0 w0 β a w s Q hQ=>?_⟩
      obtain ⟨e,_⟩:=Eqs.cons_ok (hg β _ (i1 _ (List.mem_cons_self ..)))
      injection e with e
      exact wp_cond_true (by rw [s.sl.eval]; exact e) (i3 hg (s.cs _) Q hQ)
    · obtain ⟨i1,i2,i3⟩:=ih _ _ _ _ h hf
      refine ⟨fun y hy=>i1 y (List.mem_cons_of_mem _ hy),i2,fun hg B0 w0 β a w s Q hQ=>?_⟩
      obtain ⟨e,_⟩:=Eqs.cons_ok (hg β _ (i1 _ (List.mem_cons_self ..)))
      injection e with e
      exact wp_cond_false (by rw [s.sl.eval]; exact e) (i3 hg (s.cs _) Q hQ)
    · cases h
   | block j c=>obtain ⟨i1,i2,i3⟩:=ih _ _ _ _ h hf; exact ⟨i1,i2,fun hg B0 w0 β a w s Q hQ=>wp_block (i3 hg s Q hQ)⟩
   | loop c =>
    dsimp only at h
    split at h
    · obtain rfl:=Option.some.inj h
      exact ⟨fun _ hx=>hx,hf,fun _ B0 w0 β a w s Q hQ=>rounds_loop (hQ β a w (fun _ _=>rfl) (s.ev _))⟩
    · obtain ⟨i1,i2,i3⟩:=ih _ _ _ _ h hf
      exact ⟨i1,i2,fun hg B0 w0 β a w s Q hQ=>rounds_loop (rounds_one (i3 hg s Q hQ))⟩
   | rangeFunc _ _ _ _=>cases h
   | exit j =>
    dsimp only at h
    split at h
    · rename_i r hr
      obtain ⟨i1,i2,i3⟩:=ih _ _ _ _ h hf
      exact ⟨i1,i2,fun hg B0 w0 β a w s Q hQ=>wp_exit (post_exit hr (i3 hg s Q hQ))⟩
    · cases h
   | scope c=>obtain ⟨i1,i2,i3⟩:=ih _ _ _ _ h hf; exact ⟨i1,i2,fun hg B0 w0 β a w s Q hQ=>wp_scope_straight (i3 hg s Q hQ)⟩
   | goto _=>cases h
   | ret =>
    obtain rfl:=Option.some.inj h
    exact ⟨fun _ hx=>hx,hf,fun _ B0 w0 β a w s Q hQ=>wp_ret (post_ret (hQ β a w (fun _ _=>rfl) s).2 ks)⟩
   | refuse _=>cases h
def loopsOf:Nat→Code→List Kf→List (Code × List Kf)
 | 0,_,_=>[]
 | m+1,c,ks=>match c with
  | .seq a b=>loopsOf m a (.sq b::ks)++loopsOf m b ks
  | .cond _ a b=>loopsOf m a ks++loopsOf m b ks
  | .block id c=>loopsOf m c (.bl id::ks)
  | .loop c=>(c,ks)::loopsOf m c (.lp c::ks)
  | .scope c=>loopsOf m c (.sc::ks)
  | _=>[]
def lpAt (fn:Func) (i:Nat):Code × List Kf:=match fn.body with
 | some c=>(loopsOf 200 c []).getD i (.skip,[])
 | none=>(.skip,[])
def Stop.pos {P:Program}:Stop P→Option (Code × List Kf)
 | .ended _=>none
 | .head c ks _=>some (c,ks)
def mkC (P:Program) (n u:Nat) (sl:List (Nat × SV)) (ob:List Ob) (ev:List (Ev P)):Cf P :=
 ⟨sl++(List.range n).map fun t=>(t,.one (.c (.b (.gh u t)))),fun k=>Nat.blt k ob.length,ob,ev,[]⟩
def tEq1 (β:Env) (σ:List Nat):Env:=fun j=>β (σ.getD j 0)
def opaqB (u t:Nat):SV→Bool
 | .one (.c (.b (.gh k i)))=>Nat.beq k u&&Nat.beq i t
 | _=>false
def layB:Ob→Bool
 | .box _ _=>true
 | .row _ _ _ _=>true
 | .ow _ _=>true
 | _=>false
def deadB:Ob→Bool
 | .dead=>true
 | _=>false
def kindB:Ob→Ob→Bool
 | .th _,.th _=>true
 | .al _ _,.th _=>true
 | .box _ _,.box _ _=>true
 | .row _ _ _ _,.row _ _ _ _=>true
 | .ow _ _,.ow _ _=>true
 | .ow _ _,.th _=>true
 | _,.dead=>true
 | _,_=>false
def wkB (m0 u:Nat) (obS obT:List Ob) (σ:List Nat):Bool :=
 Nat.beq σ.length obT.length&&Nat.ble m0 u&&Nat.blt u obT.length&&(List.range m0).all (fun i=>Nat.beq (σ.getD i 0) i) &&
 (List.range obT.length).all fun j=>match obT[j]? with
  | none=>false
  | some x=>(bif Nat.beq j u then deadB x else match obS[σ.getD j 0]? with
    | none=>false
    | some y=>kindB y x&&x.of (fun k=>Nat.blt k obT.length&&!Nat.beq k u)) &&
   (bif layB x then (!Nat.ble m0 j||Nat.ble m0 (σ.getD j 0))&&(List.range obT.length).all (fun i=>Nat.beq i j||(Nat.beq i u||((match obT[i]? with | some y=>deadB y | none=>false)||!Nat.beq (σ.getD i 0) (σ.getD j 0)))) else true)
def wkOb (β:Env) (σ:List Nat):Ob→Ob→Eqs
 | .box cs t,.box cs' t'=>[(.n t,.n t'),(.v (.agg (cs.map (Lf.den β)).toArray),.v (.agg (cs'.map (Lf.den (tEq1 β σ))).toArray))]
 | .row cs t n sz,.row cs' t' n' sz'=>[(.n t,.n t'),(.n n,.n n'),(.n sz,.n sz'),(.v (.agg (cs.map (Lf.den β)).toArray),.v (.agg (cs'.map (Lf.den (tEq1 β σ))).toArray))]
 | .ow D t,.ow D' t'=>[(.ob (.ow D t),.ob (.ow D' t'))]
 | .ow D _,.th t'=>[(.ob (.th D),.ob (.th t'))]
 | y,.th t=>[(.ob (y.plain (.th t)),.ob (.th t))]
 | _,_=>[]
def wkObs (β:Env) (obS:List Ob) (σ:List Nat):List Ob→Nat→Eqs
 | [],_=>[]
 | x::r,j=>(match obS[σ.getD j 0]? with | some y=>wkOb β σ y x | none=>(match x with | .dead=>[] | _=>Eqs.no))++wkObs β obS σ r (j+1)
def wkSl (β:Env) (u L:Nat) (σ:List Nat) (slS slT:List (Nat × SV)):Nat→Eqs
 | 0=>[]
 | t+1=>(bif opaqB u t (look slT t) then [] else bif (look slT t).of (fun k=>Nat.blt k L&&!Nat.beq k u) then [(.v ((look slS t).den β),.v ((look slT t).den (tEq1 β σ)))] else Eqs.no)++wkSl β u L σ slS slT t
def pieceE (P:Program) (m0 n:Nat) (s:Option (Stop P)) (u:Nat) (sl:List (Nat × SV)) (ob:List Ob) (σ:List Nat) (β:Env):Eqs :=
 match s with
 | some (.head _ _ f)=>(bif wkB m0 u f.ob ob σ&&Nat.beq f.ev.length 0&&sl.all (fun p=>Nat.blt p.1 n) then [] else Eqs.no)++(wkObs β f.ob σ ob 0++(wkSl β u ob.length σ f.sl (mkC P n u sl ob []).sl n++eqsOf β f.cs))
 | _=>Eqs.no
def lastE (P:Program) (fn:Func) (m0 n:Nat) (res:SV) (outs:List (Nat × Ob)) (s:Option (Stop P)) (β:Env):Eqs :=
 match s with
 | some (.ended f)=>fin1 P fn m0 n res outs f β
 | _=>Eqs.no
theorem Eqs.left {a b:Eqs} (h:Eqs.ok (a++b)):Eqs.ok a:=fun p hp=>h p (List.mem_append.2 (.inl hp))
theorem Eqs.right {a b:Eqs} (h:Eqs.ok (a++b)):Eqs.ok b:=fun p hp=>h p (List.mem_append.2 (.inr hp))
theorem bif_ok {b:Bool} (h:Eqs.ok (bif b then [] else Eqs.no)):b=true:=by
 cases b
 · exact (Eqs.no_ok h).elim
 · rfl
theorem look_none:∀ {l:List (Nat × SV)} {t:Nat},(∀ p∈l,p.1≠t)→look l t=undefS
 | [],_,_=>rfl
 | (k,x)::r,t,h=>by
  unfold look
  rw [show Nat.beq k t=false by rw [Bool.eq_false_iff,ne_eq,Nat.beq_eq]; exact h (k,x) (List.mem_cons_self ..),cond_false]
  exact look_none fun p hp=>h p (List.mem_cons_of_mem _ hp)
theorem wkObs_ok {β:Env} {obS:List Ob} {σ:List Nat}:∀ {obT:List Ob} {i:Nat},Eqs.ok (wkObs β obS σ obT i)→∀ (j:Nat) (x y:Ob),obT[j]?=some x→obS[σ.getD (i+j) 0]?=some y→Eqs.ok (wkOb β σ y x)
 | [],_,_,j,x,y,h,_=>by simp at h
 | z::r,i,h,j,x,y,hx,hy=>by
  unfold wkObs at h
  cases j with
  | zero =>
   simp only [List.getElem?_cons_zero] at hx
   obtain rfl:=Option.some.inj hx
   have:=Eqs.left h
   rw [Nat.add_zero] at hy
   rw [hy] at this
   exact this
  | succ j=>exact wkObs_ok (Eqs.right h) j x y (by simpa using hx) (by rw [show i+1+j=i+(j+1) by omega]; exact hy)
theorem opaqB_eq {u t:Nat} {x:SV} (h:opaqB u t x=true):x=.one (.c (.b (.gh u t))):=by
 unfold opaqB at h
 split at h
 · rw [Bool.and_eq_true,Nat.beq_eq,Nat.beq_eq] at h
   obtain ⟨rfl,rfl⟩:=h
   rfl
 · cases h
theorem wkSl_ok {β:Env} {u L:Nat} {σ:List Nat} {slS slT:List (Nat × SV)}:∀ {n:Nat},Eqs.ok (wkSl β u L σ slS slT n)→∀ t,t<n→look slT t=.one (.c (.b (.gh u t)))∨((look slT t).of (fun k=>Nat.blt k L&&!Nat.beq k u)=true∧(look slS t).den β=(look slT t).den (tEq1 β σ))
 | 0,_,t,h=>by omega
 | n+1,h,t,ht=>by
  unfold wkSl at h
  by_cases e:t=n
  · subst e
    have h:=Eqs.left h
    cases ho:opaqB u t (look slT t) with
    | true=>exact .inl (opaqB_eq ho)
    | false =>
     rw [ho,cond_false] at h
     cases hq:(look slT t).of (fun k=>Nat.blt k L&&!Nat.beq k u) with
     | true =>
      rw [hq,cond_true] at h
      obtain ⟨e,_⟩:=Eqs.cons_ok h
      injection e with e
      exact .inr ⟨rfl,e⟩
     | false=>rw [hq,cond_false] at h; exact (Eqs.no_ok h).elim
  · exact wkSl_ok (Eqs.right h) t (by omega)
theorem layB_iff {x:Ob}:layB x=true↔∃ p,x.layOf=some p:=by
 cases x<;>simp [layB,Ob.layOf]
theorem kind_lay {y x:Ob} (h:kindB y x=true) (hx:layB x=true):layB y=true:=by
 cases y<;>cases x<;>first | rfl | (cases h; done) | (cases hx; done)
theorem kind_dead {y x:Ob} (h:kindB y x=true) (hx:x≠.dead):y≠.dead:=by
 cases y<;>cases x<;>first | (intro e; cases e; done) | (cases h; done) | exact absurd rfl hx
theorem wk_hold {β β':Env} {w:World} {g:Pl} {σ:List Nat} {q:Nat→Bool} {y x:Ob} (hk:kindB y x=true) (he:Eqs.ok (wkOb β σ y x)) (hq:x.of q=true) (hβ:∀ k,q k=true→tEq1 β σ k=β' k) (h:y.holds β w g):x.holds β' w g:=by
 have thc:∀ (y:Ob) (t:Thing),Eqs.ok [(Tm.ob (y.plain (.th t)),Tm.ob (.th t))]→y.holds β w g→(Ob.th t).holds β' w g:=fun y t he h=>by
  obtain ⟨e,_⟩:=Eqs.cons_ok he
  injection e with e
  have:=Ob.plain_holds (x:=.th t) h
  rw [e] at this
  exact this
 cases x with
 | dead=>exact trivial
 | al r D=>cases y<;>(cases hk; done)
 | pl n=>cases y<;>(cases hk; done)
 | th t =>
  cases y<;>first | (cases hk; done) | exact thc _ t he h | skip
  obtain ⟨e,_⟩:=Eqs.cons_ok he
  injection e with e
  injection e with e
  subst e
  exact h.2
 | ow D' t' =>
  cases y<;>first | (cases hk; done) | skip
  obtain ⟨e,_⟩:=Eqs.cons_ok he
  injection e with e
  injection e with e e2
  subst e e2
  exact h
 | box cs' t' =>
  cases y<;>first | (cases hk; done) | skip
  rename_i cs t
  obtain ⟨e1,he⟩:=Eqs.cons_ok he
  obtain ⟨e2,_⟩:=Eqs.cons_ok he
  injection e1 with e1
  injection e2 with e2
  injection e2 with e2
  have e2:=congrArg Array.toList e2
  dsimp only at e2
  subst e1
  have hc:cs'.map (Lf.den (tEq1 β σ))=cs'.map (Lf.den β'):=all_congr hq (Lf.den_congr hβ)
  refine ⟨h.1,?_⟩
  rw [← hc,← e2]
  exact h.2
 | row cs' t' n' sz' =>
  cases y<;>first | (cases hk; done) | skip
  rename_i cs t n sz
  obtain ⟨e1,he⟩:=Eqs.cons_ok he
  obtain ⟨e3,he⟩:=Eqs.cons_ok he
  obtain ⟨e4,he⟩:=Eqs.cons_ok he
  obtain ⟨e2,_⟩:=Eqs.cons_ok he
  injection e1 with e1
  injection e3 with e3
  injection e4 with e4
  injection e2 with e2
  injection e2 with e2
  have e2:=congrArg Array.toList e2
  dsimp only at e2
  subst e1 e3 e4
  have hc:cs'.map (Lf.den (tEq1 β σ))=cs'.map (Lf.den β'):=all_congr hq (Lf.den_congr hβ)
  have hl:cs'.length=cs.length:=by
   have:=congrArg List.length e2
   rw [List.length_map,List.length_map] at this
   exact this.symm
  obtain ⟨h0,cur,h1,h2,h3,h4,h5,h6⟩:=h
  refine ⟨h0,cur,h1,by rw [hl]; exact h2,h3,h4,h5,?_⟩
  rw [← hc,← e2]
  exact h6
theorem wk_sync {P:Program} {m0 n u:Nat} {B0:Bd} {w0:World} {f:Cf P} {sl:List (Nat × SV)} {ob:List Ob} {ev:List (Ev P)} {σ:List Nat} {β:Env} {a:Act} {w:World}
  (hB:wkB m0 u f.ob ob σ=true) (hn:sl.all (fun p=>Nat.blt p.1 n)=true) (hO:Eqs.ok (wkObs β f.ob σ ob 0)) (hS:Eqs.ok (wkSl β u ob.length σ f.sl (mkC P n u sl ob ev).sl n)) (h:Sync P m0 n B0 w0 f β a w) (hBk:B0.k≤m0:=by exact Nat.le_refl _) :
  ∃ β':Env,(∀ k,k<m0→β' k=β k)∧Sync P m0 n B0 w0 (mkC P n u sl ob ev) β' a w:=by
 unfold wkB at hB
 rw [Bool.and_eq_true,Bool.and_eq_true,Bool.and_eq_true,Bool.and_eq_true,Nat.beq_eq,Nat.ble_eq,Nat.blt_eq] at hB
 obtain ⟨⟨⟨⟨hlen,hmu⟩,hul⟩,hid⟩,hall⟩:=hB
 have hσ:∀ i,i<m0→σ.getD i 0=i:=fun i hi=>Nat.eq_of_beq_eq_true (List.all_eq_true.1 hid i (List.mem_range.2 hi))
 obtain ⟨β',hβ⟩:∃ β':Env,β'=fun j=>if j=u then ⟨0,fun _=>none,fun _=>0,fun _=>False,fun t=>a.tmps.getD t undef⟩ else β (σ.getD j 0):=⟨_,rfl⟩
 have hβu:β' u=⟨0,fun _=>none,fun _=>0,fun _=>False,fun t=>a.tmps.getD t undef⟩:=by rw [hβ]; exact if_pos rfl
 have hβo:∀ j,j≠u→β' j=β (σ.getD j 0):=fun j hj=>by rw [hβ]; exact if_neg hj
 have hβm:∀ k,k<m0→β' k=β k:=fun k hk=>by rw [hβo k (by omega),hσ k hk]
 have hq:∀ k,(Nat.blt k ob.length&&!Nat.beq k u)=true→tEq1 β σ k=β' k:=fun k hk=>by
  rw [Bool.and_eq_true,Bool.not_eq_true',Nat.blt_eq] at hk
  rw [hβo k (fun e=>by rw [e,Nat.beq_refl] at hk; cases hk.2)]
  rfl
 have hmono:∀ k,(Nat.blt k ob.length&&!Nat.beq k u)=true→Nat.blt k ob.length=true:=fun k hk=>by rw [Bool.and_eq_true] at hk; exact hk.1
 have hsrc:∀ (j:Nat) (x:Ob),ob[j]?=some x→(j=u→x=.dead)∧(j≠u→∃ y,f.ob[σ.getD j 0]?=some y∧kindB y x=true∧x.of (fun k=>Nat.blt k ob.length&&!Nat.beq k u)=true)∧(layB x=true→(m0≤j→m0≤σ.getD j 0)∧∀ (i:Nat) (y:Ob),ob[i]?=some y→y≠.dead→i≠j→i≠u→σ.getD i 0≠σ.getD j 0):=by
  intro j x hx
  have hj:j<ob.length:=(List.getElem?_eq_some_iff.1 hx).1
  have hc:=List.all_eq_true.1 hall j (List.mem_range.2 hj)
  rw [hx] at hc
  dsimp only at hc
  rw [Bool.and_eq_true] at hc
  obtain ⟨hc1,hc2⟩:=hc
  refine ⟨fun e=>?_,fun e=>?_,fun hl=>?_⟩
  · rw [e,Nat.beq_refl,cond_true] at hc1
    cases x<;>first | rfl | (cases hc1; done)
  · rw [show Nat.beq j u=false by rw [Bool.eq_false_iff,ne_eq,Nat.beq_eq]; exact e,cond_false] at hc1
    split at hc1
    · cases hc1
    · rename_i y hy
      rw [Bool.and_eq_true] at hc1
      exact ⟨y,hy,hc1.1,hc1.2⟩
  · rw [hl,cond_true,Bool.and_eq_true,Bool.or_eq_true] at hc2
    refine ⟨fun hm=>?_,fun i y hy hd hij hiu e=>?_⟩
    · rcases hc2.1 with h1 | h1
      · rw [Bool.not_eq_true',Bool.eq_false_iff,ne_eq,Nat.ble_eq] at h1
        exact absurd hm h1
      · exact Nat.le_of_ble_eq_true h1
    · have hi:i<ob.length:=(List.getElem?_eq_some_iff.1 hy).1
      have h1:=List.all_eq_true.1 hc2.2 i (List.mem_range.2 hi)
      rw [hy,Bool.or_eq_true,Bool.or_eq_true,Bool.or_eq_true,Nat.beq_eq,Nat.beq_eq,e,Nat.beq_refl] at h1
      rcases h1 with h1 | h1 | h1 | h1
      · exact hij h1
      · exact hiu h1
      · refine hd ?_
        cases y<;>first | rfl | (cases h1; done)
      · cases h1
 have hex:∀ {k:Nat} {y:Ob},f.ob[k]?=some y→f.q k=true:=fun {k y} hy=>(h.q k).2 (List.getElem?_eq_some_iff.1 hy).1
 have hob:∀ {k:Nat},Nat.blt k ob.length=true→∃ x,ob[k]?=some x:=fun {k} hk=>⟨_,List.getElem?_eq_getElem (by rw [Nat.blt_eq] at hk; exact hk)⟩
 have hfree:∀ {k:Nat} {x:Ob},ob[k]?=some x→Free (fun k=>Nat.blt k ob.length) (fun k=>ob[k]?) k→layB x=true∧k≠u:=fun {k x} hx hf=>by
  rcases hf with ⟨x',e,p,hp⟩ | ⟨⟨m,e⟩,_⟩
  · dsimp only at e
    rw [hx] at e
    obtain rfl:=Option.some.inj e
    refine ⟨layB_iff.2 ⟨p,hp⟩,fun e=>?_⟩
    rw [(hsrc k x hx).1 e] at hp
    cases hp
  · dsimp only at e
    rw [hx] at e
    obtain rfl:=Option.some.inj e
    exfalso
    by_cases ek:k=u
    · have:=(hsrc k _ hx).1 ek
      cases this
    · obtain ⟨y,_,hk,_⟩:=(hsrc k _ hx).2.1 ek
      cases y<;>(cases hk; done)
 have hlayS:∀ {k:Nat} {x:Ob},ob[k]?=some x→layB x=true→k≠u→f.q (σ.getD k 0)=true∧Free f.q (fun k=>f.ob[k]?) (σ.getD k 0):=fun {k x} hx hl hku=>by
  obtain ⟨y,hy,hk,_⟩:=(hsrc k x hx).2.1 hku
  obtain ⟨p,hp⟩:=layB_iff.1 (kind_lay hk hl)
  exact ⟨hex hy,Free.lay hy hp⟩
 refine ⟨β',hβm,⟨⟨h.good.bel,h.good.le,?_,?_,?_,?_,?_,?_,?_,?_,?_⟩,fun k=>by dsimp only [mkC]; rw [Nat.blt_eq],⟨h.sl.1,fun t=>?_⟩,fun t=>?_,?_,h.defers,?_⟩⟩
 ·
  intro k o hk hko
  dsimp only [mkC] at hk hko ⊢
  by_cases e:k=u
  · rw [(hsrc k o hko).1 e]
    exact ⟨trivial,rfl⟩
  · obtain ⟨y,hy,hkd,hof⟩:=(hsrc k o hko).2.1 e
    have hh:=(h.good.hold _ y (hex hy) hy).1
    refine ⟨?_,Ob.of_mono hmono _ hof⟩
    rw [hβo k e]
    refine wk_hold hkd (wkObs_ok hO k o y hko ?_) hof hq hh
    rw [Nat.zero_add]
    exact hy
 ·
  intro k hk c hc
  dsimp only [mkC] at hk
  by_cases e:k=u
  · rw [e,hβu] at hc; exact hc.elim
  · rw [hβo k e] at hc
    obtain ⟨x,hx⟩:=hob hk
    obtain ⟨y,hy,_⟩:=(hsrc k x hx).2.1 e
    exact h.good.lt _ (hex hy) c hc
 ·
  intro k j hk hj hne hm hf hd
  dsimp only [mkC] at hk hj hf hd
  obtain ⟨x,hx⟩:=hob hk
  obtain ⟨z,hz⟩:=hob hj
  obtain ⟨hl,hku⟩:=hfree hx hf
  by_cases e:j=u
  · rw [e,hβu]; exact fun hc=>hc.elim
  · obtain ⟨hs1,hs2⟩:=hlayS hx hl hku
    obtain ⟨hm2,hdis⟩:=(hsrc k x hx).2.2 hl
    obtain ⟨y,hy,hkd,_⟩:=(hsrc j z hz).2.1 e
    have hzd:z≠.dead:=fun e=>hd (by rw [hz,e])
    rw [hβo k hku,hβo j e]
    exact h.good.ne _ _ hs1 (hex hy) (hdis j z hz hzd hne e) (hm2 hm) hs2 (fun e=>kind_dead hkd hzd (Option.some.inj (hy.symm.trans e)))
 ·
  intro k x hk hm hx hmi
  dsimp only [mkC] at hk hx
  obtain ⟨hl,hku⟩:layB x=true∧k≠u:=by
   refine ⟨?_,fun e=>by rw [(hsrc k x hx).1 e] at hmi; cases hmi⟩
   cases x<;>first | (cases hmi; done) | exact layB_iff.2 ⟨_,rfl⟩ | skip
   exfalso
   by_cases ek:k=u
   · have:=(hsrc k _ hx).1 ek
     cases this
   · obtain ⟨y,_,hk,_⟩:=(hsrc k _ hx).2.1 ek
     cases y<;>(cases hk; done)
  obtain ⟨hs1,hs2⟩:=hlayS hx hl hku
  rw [hβo k hku]
  exact h.good.low _ hs1 (((hsrc k x hx).2.2 hl).1 hm) hs2
 ·
  intro k hk hm c hc
  dsimp only [mkC] at hk
  by_cases e:k=u
  · rw [e,hβu] at hc; exact hc.elim
  · rw [hβo k e] at hc
    obtain ⟨x,hx⟩:=hob hk
    obtain ⟨y,hy,_⟩:=(hsrc k x hx).2.1 e
    by_cases hs:m0≤σ.getD k 0
    · exact (h.good.fr _ (hex hy) hs c hc).imp id fun ⟨i,i1,i2⟩=>⟨i,i1,by rw [hβm i i1]; exact i2⟩
    · exact .inr ⟨σ.getD k 0,by omega,by rw [hβm _ (by omega)]; exact hc⟩
 · intro i hi
   dsimp only [mkC]
   rw [Nat.blt_eq]
   omega
 · intro k r D hk ho
   dsimp only [mkC] at ho
   exfalso
   by_cases e:k=u
   · have:=(hsrc k _ ho).1 e
     cases this
   · obtain ⟨y,_,hkd,_⟩:=(hsrc k _ ho).2.1 e
     cases y<;>(cases hkd; done)
 · intro k r D hk ho
   dsimp only [mkC] at ho
   exfalso
   by_cases e:k=u
   · have:=(hsrc k _ ho).1 e
     cases this
   · obtain ⟨y,_,hkd,_⟩:=(hsrc k _ ho).2.1 e
     cases y<;>(cases hkd; done)
 · intro k i hk hi hlt hm hd hp
   dsimp only [mkC] at hp
   obtain ⟨M,hp⟩:=hp
   exfalso
   by_cases e:i=u
   · have:=(hsrc i _ hp).1 e
     cases this
   · obtain ⟨y,_,hkd,_⟩:=(hsrc i _ hp).2.1 e
     cases y<;>(cases hkd; done)
 ·
  by_cases ht:t<n
  · rcases wkSl_ok hS t ht with e | ⟨e1,e2⟩
    · rw [e]
      show _=(β' u).u t
      rw [hβu]
    · rw [h.sl.2 t,e2]
      exact SV.den_congr hq _ e1
  · have hl:look (mkC P n u sl ob ev).sl t=undefS:=look_none fun p hp=>by
     rcases List.mem_append.1 hp with hp | hp
     · have:=List.all_eq_true.1 hn p hp
       rw [Nat.blt_eq] at this
       omega
     · obtain ⟨t',ht',rfl⟩:=List.mem_map.1 hp
       have:=List.mem_range.1 ht'
       dsimp only
       omega
    rw [hl]
    show a.tmps.getD t undef=undef
    rw [Array.getD_eq_getD_getElem?,Array.getElem?_eq_none (by rw [h.sl.1]; omega)]
    rfl
 · by_cases ht:t<n
   · rcases wkSl_ok hS t ht with e | ⟨e1,e2⟩
     · rw [e]
       show Nat.blt u ob.length=true
       rw [Nat.blt_eq]; exact hul
     · exact SV.of_mono hmono _ e1
   · have hl:look (mkC P n u sl ob ev).sl t=undefS:=look_none fun p hp=>by
      rcases List.mem_append.1 hp with hp | hp
      · have:=List.all_eq_true.1 hn p hp
        rw [Nat.blt_eq] at this
        omega
      · obtain ⟨t',ht',rfl⟩:=List.mem_map.1 hp
        have:=List.mem_range.1 ht'
        dsimp only
        omega
     rw [hl]; rfl
 · show m0≤ob.length∧B0.k≤ob.length
   omega
 · intro k j i D D' h1 h2
   exfalso
   by_cases e:k=u
   · have:=(hsrc k _ h1).1 e
     cases this
   · obtain ⟨y,_,hkd,_⟩:=(hsrc k _ h1).2.1 e
     cases y<;>(cases hkd; done)
def HdOk (P:Program) (m0 n:Nat) (N:Nat) (w0:World) (β0:Env) (Q:Exit→Act→World→Prop) (C:Cf P) (p:Code × List Kf):Prop :=
 ∀ (β:Env) (a:Act) (w:World),(∀ k,k<m0→β k=β0 k)→Sync P m0 n (bd0 N m0) w0 C β a w→Rounds P p.1 (post P Q p.2) a w
theorem pieceE_parts {P:Program} {m0 n:Nat} {c:Code} {ks:List Kf} {f:Cf P} {u:Nat} {sl:List (Nat × SV)} {ob:List Ob} {σ:List Nat} (ev:List (Ev P)) (he:∀ β,Eqs.ok (pieceE P m0 n (some (.head c ks f)) u sl ob σ β)) :
  f.good∧∀ {N:Nat} {w0:World} {β:Env} {a:Act} {w:World},Sync P m0 n (bd0 N m0) w0 f β a w→∃ β':Env,(∀ k,k<m0→β' k=β k)∧Sync P m0 n (bd0 N m0) w0 (mkC P n u sl ob ev) β' a w:=by
 refine ⟨fun β x hx=>eqsOf_ok (Eqs.right (Eqs.right (Eqs.right (he β)))) x hx,fun {N w0 β a w} hs=>?_⟩
 have h:=he β
 have h1:=bif_ok (Eqs.left h)
 rw [Bool.and_eq_true,Bool.and_eq_true] at h1
 exact wk_sync h1.1.1 h1.2 (Eqs.left (Eqs.right h)) (Eqs.left (Eqs.right (Eqs.right h))) hs
theorem piece_ok {P:Program} {m0 n:Nat} {N:Nat} {w0:World} {β0:Env} {Q:Exit→Act→World→Prop} {Ns:List (Nat × Nat)} {m:Nat} {C:Cf P} {p p':Code × List Kf} {u:Nat} {sl:List (Nat × SV)} {ob:List Ob} (ev:List (Ev P)) (σ:List Nat) (hm:P.follows .mixedOrders=true)
  (hp:(runP P m0 n Ns m (some p.1) (.lp p.1::p.2) C).bind Stop.pos=some p') (he:∀ β,Eqs.ok (pieceE P m0 n (runP P m0 n Ns m (some p.1) (.lp p.1::p.2) C) u sl ob σ β))
  (hH:HdOk P m0 n N w0 β0 Q (mkC P n u sl ob ev) p'):HdOk P m0 n N w0 β0 Q C p:=by
 intro β a w hβ hs
 cases hr:runP P m0 n Ns m (some p.1) (.lp p.1::p.2) C with
 | none=>rw [hr] at hp; cases hp
 | some s =>
  rw [hr] at hp he
  cases s with
  | ended f=>cases hp
  | head c ks f =>
   obtain rfl:(c,ks)=p':=Option.some.inj hp
   obtain ⟨hg,hw⟩:=pieceE_parts ev he
   obtain ⟨_,_,r3⟩:=runP_ok hm _ _ _ _ _ hr ⟨hs.q,hs.uq⟩
   refine rounds_one (r3 hg hs Q fun β' a' w' e s'=>?_)
   obtain ⟨β'',e2,s2⟩:=hw s'
   exact hH β'' a' w' (fun k hk=>(e2 k hk).trans ((e k hk).trans (hβ k hk))) s2
def Said (P:Program) (fn:Func) (m0:Nat) (res:SV) (outs:List (Nat × Ob)) (β:Env) (w:World) (e:Ending) (w':World):Prop :=
 ∃ (β':Env) (q:Nat→Bool) (obj:Nat→Option Ob),(∀ k,k<m0→β' k=β k)∧e=.returned (res.den β')∧res.of q=true∧(∀ p∈outs,∀ c,(β' p.1).F c→w.heap.size≤c∨∃ i,i<m0∧(β i).F c)∧holdsAll β' w' outs∧Fin w w'
theorem fin1_parts {P:Program} {fn:Func} {m0 n:Nat} {res:SV} {outs:List (Nat × Ob)} {f:Cf P} (h:∀ β,Eqs.ok (fin1 P fn m0 n res outs f β)):f.good∧∀ {β0:Env} {w:World} {β':Env} {a':Act} {w':World},(∀ k,k<m0→β' k=β0 k)→Sync P m0 n (bd0 w.heap.size m0) w f β' a' w' →
  bodyPost P fn (Said P fn m0 res outs β0 w) .normal a' w'∧bodyPost P fn (Said P fn m0 res outs β0 w) .ret a' w':=by
 have fin:∃ r:R1 Value,run1 P m0 false (results fn (tmpsS idE f.sl n)) f.q f.ob []=some r∧res.of f.q=true∧r.ob.length=f.ob.length ∧
   ∀ β,Eqs.ok (chk P β (results fn (tmpsS β f.sl n)) r.tr.reverse (fun u=>[(.v u,.v (res.den β))])++(needEqs f.q f.ob outs++eqsOf β f.cs)):=by
  cases hx:run1 P m0 false (results fn (tmpsS idE f.sl n)) f.q f.ob [] with
  | none=>have:=h idE; unfold fin1 at this; rw [hx] at this; exact (Eqs.no_ok this).elim
  | some r =>
   obtain ⟨ra,rq,rob,rtr⟩:=r
   cases hc:(res.of f.q&&Nat.beq rob.length f.ob.length&&Nat.beq f.ev.length 0) with
   | false=>have:=h idE; unfold fin1 at this; rw [hx] at this; dsimp only at this; rw [hc] at this; exact (Eqs.no_ok this).elim
   | true =>
    have h3:=hc
    simp only [Bool.and_eq_true,Nat.beq_eq] at hc
    refine ⟨_,rfl,hc.1.1,hc.1.2,fun β=>?_⟩
    have:=h β
    unfold fin1 at this
    rw [hx] at this
    dsimp only at this
    rw [h3] at this
    exact this
 obtain ⟨r,f1,f2,f3,f4⟩:=fin
 refine ⟨fun β x hx=>eqsOf_ok (fun p hp=>f4 β p (List.mem_append.2 (.inr (List.mem_append.2 (.inr hp))))) x hx,?_⟩
 intro β0 w β' a' w' e s
 obtain ⟨h5,_,_,tr,h8,h9⟩:=run1_ok _ _ _ _ _ f1 (fun k hk=>(s.q k).1 hk)
 obtain ⟨k1,obj',k2,k3,k4⟩:=h9 _ _ _ _ _ _ s.good (fun k hk=>⟨hk,rfl⟩) (fun k a b=>by omega) s.m0.1
 have h6:=f4 β'
 rw [h8,List.append_nil,List.reverse_reverse] at h6
 have h7:Eqs.ok (chk P β' (results fn (tmpsS β' f.sl n)) tr (fun u=>[(.v u,.v (res.den β'))])):=fun p hp=>h6 p (List.mem_append.2 (.inl hp))
 obtain ⟨v,hv,hv2⟩:=chk_run _ _ _ h7 k1
 obtain ⟨e1,_⟩:=Eqs.cons_ok hv2
 injection e1 with e1
 subst e1
 rw [f3,rangeQ_self] at k4
 have hend:trEnd β' w' tr=w':=by
  obtain ⟨tr2,x1,x2⟩:=run1_still _ _ _ _ _ f1 (fun k hk=>(s.q k).1 hk) f3
  rw [h8,List.append_nil,List.append_nil] at x1
  rw [List.reverse_inj.1 x1]
  exact x2 β' w'
 rw [hend] at hv k4
 rw [← tmps_eq s.sl] at hv
 have hout:∀ p:Nat × Ob,f.q p.1=true→∀ c,(β' p.1).F c→w.heap.size≤c∨∃ i,i<m0∧(β0 i).F c:=fun p hp c hc=>by
  by_cases h0:m0≤p.1
  · exact (s.good.fr p.1 hp h0 c hc).imp (fun a=>a.elim (fun a=>a.elim id False.elim) False.elim) fun ⟨i,i1,i2⟩=>⟨i,i1,by rw [← e i i1]; exact i2⟩
  · exact .inr ⟨p.1,by omega,by rw [← e p.1 (by omega)]; exact hc⟩
 have hneed:Eqs.ok (needEqs f.q f.ob outs):=fun p hp=>f4 β' p (List.mem_append.2 (.inr (List.mem_append.2 (.inl hp))))
 have hres:bodyPost P fn (Said P fn m0 res outs β0 w) .normal a' w':=⟨s.defers,_,hv,β',f.q,obj',e,rfl,f2,fun p hp c hc=>hout p (needs_q _ hneed p hp) c hc,needs_hold s.good (fun k hk=>⟨hk,rfl⟩) _ hneed,⟨k4.bel.below⟩⟩
 exact ⟨hres,hres⟩
theorem last_ok {P:Program} {fn:Func} {m0 n:Nat} {w:World} {β0:Env} {res:SV} {outs:List (Nat × Ob)} {Ns:List (Nat × Nat)} {m:Nat} {C:Cf P} {p:Code × List Kf} (hm:P.follows .mixedOrders=true)
  (he:∀ β,Eqs.ok (lastE P fn m0 n res outs (runP P m0 n Ns m (some p.1) (.lp p.1::p.2) C) β)):HdOk P m0 n w.heap.size w β0 (bodyPost P fn (Said P fn m0 res outs β0 w)) C p:=by
 intro β a w1 hβ hs
 cases hr:runP P m0 n Ns m (some p.1) (.lp p.1::p.2) C with
 | none=>have:=he idE; rw [hr] at this; exact (Eqs.no_ok this).elim
 | some s =>
  rw [hr] at he
  cases s with
  | head c ks f=>exact (Eqs.no_ok (he idE)).elim
  | ended f =>
   obtain ⟨hg,hw⟩:=fin1_parts he
   obtain ⟨_,_,r3⟩:=runP_ok hm _ _ _ _ _ hr ⟨hs.q,hs.uq⟩
   exact rounds_one (r3 hg hs _ fun β' a' w' e s'=>hw (fun k hk=>(e k hk).trans (hβ k hk)) s')
def startP (P:Program) (fn:Func) (args:List SV) (obs:List Ob) (evs:List (Ev P)) (Ns:List (Nat × Nat)) (m:Nat):Option (Stop P):=match fn.body with
 | some c=>runP P obs.length (sizeS fn args) Ns m (some c) [] ⟨startS args 0,fun k=>Nat.blt k obs.length,obs,evs,[]⟩
 | none=>none
theorem sx_cut {P:Program} {f:FuncId} {fn:Func} (args:List SV) (obs:List Ob) (evs ev:List (Ev P)) (Ns:List (Nat × Nat)) (m:Nat) (res:SV) (outs:List (Nat × Ob)) (hf:P.funcs[f]?=some fn) (hm:P.follows .mixedOrders=true) {u:Nat} {sl:List (Nat × SV)} {ob:List Ob} {σ:List Nat} {p':Code × List Kf}
  (hp:(startP P fn args obs evs Ns m).bind Stop.pos=some p') (he:∀ β,Eqs.ok (pieceE P obs.length (sizeS fn args) (startP P fn args obs evs Ns m) u sl ob σ β))
  (hargs:args.all (SV.of fun k=>Nat.blt k obs.length)=true) (hobs:obs.all (fun x=>x.of (fun k=>Nat.blt k obs.length)&&x.own)=true) (β:Env) (w:World) (hh:∀ (k:Nat) (o:Ob),obs[k]?=some o→o.holds β w (β k))
  (hH:HdOk P obs.length (sizeS fn args) w.heap.size w β (bodyPost P fn (Said P fn obs.length res outs β w)) (mkC P (sizeS fn args) u sl ob ev) p') :
  Calls P f (args.map (SV.den β)).toArray w (Said P fn obs.length res outs β w):=by
 have hnal:∀ (k r:Nat) (D:Thing),obs[k]?≠some (.al r D):=fun k r D ho=>by
  have:=List.all_eq_true.1 hobs _ (List.mem_of_getElem? ho)
  simp [Ob.own] at this
 have huq:UniqAl obs:=fun k j i D _ h1 _=>absurd h1 (hnal k i D)
 have hlt:∀ k,k<obs.length→∀ c,(β k).F c→c<w.heap.size:=fun k hk c hc=>by
  have h:=hh k _ (List.getElem?_eq_getElem hk)
  cases hx:obs[k] with
  | box cs t=>rw [hx] at h; rw [(h.1.1 c).1 hc]; exact heap_lt h.2
  | th D=>rw [hx] at h; exact D.st.lt _ _ h c hc
  | al r D=>rw [hx] at h; exact D.st.lt _ _ h c hc
  | pl n=>rw [hx] at h; rw [(h.1.1 c).1 hc]; exact h.2.lt
  | row cs t n sz=>rw [hx] at h; rw [(h.1.1 c).1 hc]; exact heap_lt h.2.choose_spec.1
  | ow D t=>rw [hx] at h; exact D.st.lt _ _ h.2 c hc
  | dead =>
   have:=List.all_eq_true.1 hobs _ (List.mem_of_getElem? (List.getElem?_eq_getElem hk))
   rw [hx] at this
   simp [Ob.own] at this
 cases hb:fn.body with
 | none=>unfold startP at hp; rw [hb] at hp; cases hp
 | some c =>
  have hst:startP P fn args obs evs Ns m=runP P obs.length (sizeS fn args) Ns m (some c) [] ⟨startS args 0,fun k=>Nat.blt k obs.length,obs,evs,[]⟩:=by unfold startP; rw [hb]
  rw [hst] at hp he
  cases hr:runP P obs.length (sizeS fn args) Ns m (some c) [] ⟨startS args 0,fun k=>Nat.blt k obs.length,obs,evs,[]⟩ with
  | none=>rw [hr] at hp; cases hp
  | some s =>
   rw [hr] at hp he
   cases s with
   | ended f=>cases hp
   | head c1 ks1 f1 =>
    obtain rfl:(c1,ks1)=p':=Option.some.inj hp
    obtain ⟨hg,hw⟩:=pieceE_parts ev he
    obtain ⟨_,_,r3⟩:=runP_ok hm _ _ _ _ _ hr ⟨fun k=>by dsimp only; rw [Nat.blt_eq],huq⟩
    refine calls_of_wp hf hb (r3 hg (B0:=bd0 w.heap.size obs.length) (w0:=w) (β:=β) ⟨⟨Keep.refl _ _,Nat.le_refl _,fun k o hk ho=>⟨hh k o ho,(Bool.and_eq_true _ _▸List.all_eq_true.1 hobs o (List.mem_of_getElem? ho)).1⟩,fun k hk=>hlt k (by simpa [Nat.blt_eq] using hk),fun k j hk _ _ hm=>?_,fun k _ hk hm=>?_,fun k hk hm=>?_,fun i hi=>by rw [Nat.blt_eq]; exact hi,fun k r D _ ho=>?_,fun k r D _ ho=>absurd ho (hnal k r D),fun k i _ hi _ hm=>by rw [Nat.blt_eq] at hi; omega⟩,fun k=>by dsimp only; rw [Nat.blt_eq],⟨?_,fun t=>?_⟩,fun t=>?_,⟨Nat.le_refl _,Nat.le_refl _⟩,rfl,huq⟩ _ fun β' a' w' e s=>?_)
    · rw [Nat.blt_eq] at hk; omega
    · rw [Nat.blt_eq] at hk; omega
    · rw [Nat.blt_eq] at hk; omega
    · exact absurd ho (hnal k r D)
    · simp [sizeS]
    · rw [look_start,if_pos (Nat.zero_le _),Nat.sub_zero]
      simp only [Array.getD_eq_getD_getElem?,Array.getElem?_append,List.size_toArray,List.length_map,List.getElem?_toArray,List.getElem?_map]
      split
      · rename_i hlt2
        rw [List.getElem?_eq_getElem hlt2]
        rfl
      · rename_i hge
        rw [List.getElem?_eq_none (by omega)]
        simp [Array.getElem?_replicate]
        split<;>rfl
    · dsimp only
      rw [look_start,if_pos (Nat.zero_le _),Nat.sub_zero]
      cases hx:args[t]? with
      | none=>rfl
      | some x=>exact List.all_eq_true.1 hargs x (List.mem_of_getElem? hx)
    · obtain ⟨β'',e2,s2⟩:=hw s
      exact hH β'' a' w' (fun k hk=>(e2 k hk).trans (e k hk)) s2
end Go.Proofs.YtmfedaakeeiolaaGreat.Y
end
section
namespace Go.Proofs.YtmfedaakeeiolaaGreat
section
open Go.RowKit
theorem trim_take_pred (xs:List Nat) (k:Nat) (hk:0<k) (hl:k≤xs.length) (h0:xs.getD (k-1) 0=0):trim (xs.take (k-1))=trim (xs.take k):=by
 obtain ⟨j,rfl⟩:∃ j,k=j+1:=⟨k-1,by omega⟩
 simp only [Nat.add_sub_cancel] at *
 rw [List.take_succ_eq_append_getElem (by omega),← getD_in (by omega),h0,trim_snoc_zero]
theorem trim_take_done (xs:List Nat) (k:Nat) (hk:0<k) (hl:k≤xs.length) (h0:xs.getD (k-1) 0≠0):(trim (xs.take k)).length=k:=by
 obtain ⟨j,rfl⟩:∃ j,k=j+1:=⟨k-1,by omega⟩
 simp only [Nat.add_sub_cancel] at *
 rw [List.take_succ_eq_append_getElem (by omega),← getD_in (by omega),trim_snoc_pos _ _ h0]
 simp; omega
theorem cut_cells (xs:List Nat) (b o n cap:Nat) (w:World) (hn:xs.length=n) (hb:n≤17179869184) (hcap:n≤cap)
  (hc:∀ i,i<n→w.cell? ⟨b,o+i,none⟩=some (.int .u32 (xs.getD i 0:Nat))) :
  Calls Tryz.prog 376 #[.slice (some ⟨b,o,none⟩) n cap] w fun e w'=>e=.returned (.slice (some ⟨b,o,none⟩) (trim xs).length cap)∧w=w':=by
 have HN:=Lib.hid hn
 clear hn
 go_enter Tryz.func376,Tryz.ntmps376
 go_wp2
 go_loop [0] (fun s=>∃ k:Nat,k≤n∧s=.slice (some ⟨b,o,none⟩) k cap∧trim (xs.take k)=trim xs) (fun s=>match s with | .slice _ k _=>k | _=>0)
 case atStart=>exact ⟨n,Nat.le_refl _,rfl,by rw [List.take_of_length_le (by rw [HN.out]; exact Nat.le_refl _)]⟩
 case round =>
  obtain ⟨k,hk,rfl,hr⟩:=hrel
  have HR:=Lib.hid hr
  clear hr
  by_cases hk0:0<k
  · have hk1:(0:Int)≤(k:Int)-1:=by omega
    have hcell:=hc (k-1) (by omega)
    go_wp2
    · have h0:(((xs[k-1]?.getD 0:Nat):Int)==0)=true:=by assumption
      have h0':xs.getD (k-1) 0=0:=by simp at h0; simpa using h0
      exact ⟨⟨k-1,by omega,rfl,by rw [trim_take_pred xs k hk0 (by rw [HN.out]; exact hk) h0',HR.out]⟩,by simp; omega⟩
    · have h0:(((xs[k-1]?.getD 0:Nat):Int)==0)=false:=by assumption
      have h0':xs.getD (k-1) 0≠0:=by simp at h0; simpa using h0
      go_ret
      refine ⟨?_,rfl⟩
      have:=trim_take_done xs k hk0 (by rw [HN.out]; exact hk) h0'
      rw [HR.out] at this
      rw [this]
      rfl
  · obtain rfl:k=0:=by omega
    go_wp2
    go_ret
    refine ⟨?_,rfl⟩
    have:=HR.out
    have hz:(trim xs).length=0:=by rw [← this]; rfl
    rw [hz]
    rfl
theorem cut_any {w:World} {A:Option Addr} {n cap:Nat} {xs:List Nat} (h:Words w (.slice A n cap) xs) :
  Calls Tryz.prog 376 #[.slice A n cap] w fun e w'=>e=.returned (.slice A (trim xs).length cap)∧w=w':=by
 obtain ⟨hl,hcap⟩:=h.len
 by_cases h0:n=0
 · subst h0
   obtain rfl:xs=[]:=List.eq_nil_of_length_eq_zero hl.symm
   clear hl h
   go_enter Tryz.func376,Tryz.ntmps376
   go_wp2
   refine wp_loop_rounds 1 ?_
   rw [rounds_succ]
   go_wp2
   go_ret
   exact ⟨rfl,rfl⟩
 · obtain ⟨b,o,rfl,hc⟩:=h.open_ (by omega)
   exact cut_cells xs b o n cap w hl.symm (by rw [hl]; exact h.2.1) hcap hc
theorem ret_i {k:IntKind} {a b:Int} (h:a=b):Ending.returned (.int k a)=.returned (.int k b):=by rw [h]
theorem under_cells (xs ys:List Nat) (b o b' o' n ca cb:Nat) (r:Int) (w:World) (hx:xs.length=n) (hy:ys.length=n) (hb:n≤17179869184) (h0:0<n) (hwx:Wf xs) (hwy:Wf ys) (hr:r=cmpN (val xs) (val ys))
  (hc:∀ i,i<n→w.cell? ⟨b,o+i,none⟩=some (.int .u32 (xs.getD i 0:Nat))) (hd:∀ i,i<n→w.cell? ⟨b',o'+i,none⟩=some (.int .u32 (ys.getD i 0:Nat))) :
  Calls Tryz.prog 364 #[.slice (some ⟨b,o,none⟩) n ca,.slice (some ⟨b',o',none⟩) n cb] w fun e w'=>e=.returned (.int .i64 r)∧Dr w w':=by
 have HX:=Lib.hid hx
 have HY:=Lib.hid hy
 have HR:=Lib.hid hr
 clear hx hy hr
 go_enter Tryz.func364,Tryz.ntmps364
 go_wp2
 go_loopw [5] (fun i wr=>∃ k:Nat,k≤n∧i=.int .i64 ((k:Int)-1)∧(∀ j,k≤j→j<n→xs.getD j 0=ys.getD j 0)∧Dr w wr) (fun i _=>(intOf i+1).toNat)
 case atStart=>exact ⟨n,Nat.le_refl _,rfl,fun j h1 h2=>by omega,Dr.refl _⟩
 case round =>
  obtain ⟨k,hk,rfl,hs,d,rfl⟩:=hrel
  have HS:=Lib.hid hs
  clear hs
  by_cases hk0:0<k
  · obtain ⟨k,rfl⟩:∃ j,k=j+1:=⟨k-1,by omega⟩
    have e1:((k+1:Nat):Int)-1=(k:Int):=by omega
    rw [e1]
    clear e1
    have hk1:(0:Int)≤(k:Int):=by omega
    have hk2:(k:Int)<(n:Int):=by omega
    have hcell:=hc k (by omega)
    have hcell':=hd k (by omega)
    go_wp2
    go_quiet (fail)
    go_wp2
    · have h1:(xs[k]?.getD 0)<(ys[k]?.getD 0):=by assumption
      go_ret
      refine ⟨ret_i ?_,by repeat (first | exact ⟨_,rfl⟩ | refine Dr.n ?_ _)⟩
      have h2:=val_lt_of xs ys k hwx (by rw [HX.out,HY.out]) (by rw [HX.out]; omega) (by simpa using h1) (fun j h3 h4=>HS.out j (by omega) (by rw [HX.out] at h4; exact h4))
      rw [HR.out,cmpN,if_pos h2]
    · go_quiet (fail)
      go_wp2
      · have h1:(ys[k]?.getD 0)<(xs[k]?.getD 0):=by assumption
        go_ret
        refine ⟨ret_i ?_,by repeat (first | exact ⟨_,rfl⟩ | refine Dr.n ?_ _)⟩
        have h2:=val_lt_of ys xs k hwy (by rw [HX.out,HY.out]) (by rw [HY.out]; omega) (by simpa using h1) (fun j h3 h4=>(HS.out j (by omega) (by rw [HY.out] at h4; exact h4)).symm)
        rw [HR.out,cmpN,if_neg (by omega),if_pos h2]
      · have h1:(ys[k]?.getD 0)≤(xs[k]?.getD 0):=Nat.le_of_not_lt (by assumption)
        have h2:(xs[k]?.getD 0)≤(ys[k]?.getD 0):=Nat.le_of_not_lt (by assumption)
        go_roundw
        case rel =>
         refine ⟨k,by omega,rfl,fun j h3 h4=>?_,by repeat (first | exact ⟨_,rfl⟩ | refine Dr.n ?_ _)⟩
         rcases Nat.eq_or_lt_of_le h3 with rfl | h5
         · simpa using Nat.le_antisymm h2 h1
         · exact HS.out j (by omega) h4
        case measure=>simp [intOf]
  · obtain rfl:k=0:=by omega
    go_wp2
    go_ret
    refine ⟨ret_i ?_,_,rfl⟩
    have:xs=ys:=val_eq_of_same xs ys (by rw [HX.out,HY.out]) (fun i hi=>HS.out i (by omega) (by rw [HX.out] at hi; exact hi))
    rw [HR.out,this]
    simp [cmpN]
theorem under_any {w:World} {A B:Option Addr} {la ca lb cb n m:Nat} (hx:Words w (.slice A la ca) (dig n)) (hy:Words w (.slice B lb cb) (dig m)) :
  Calls Tryz.prog 364 #[.slice A la ca,.slice B lb cb] w fun e w'=>e=.returned (.int .i64 (cmpN n m))∧Dr w w':=by
 have hla:=hx.len.1
 have hlb:=hy.len.1
 have hsz:=hx.2.1
 have hsz2:=hy.2.1
 rcases Nat.lt_trichotomy la lb with h | h | h
 · have hc:cmpN n m = -1:=by rw [cmpN,if_pos (dig_len_lt n m (by omega))]
   rw [hc]
   rw [← hla] at hsz
   rw [← hlb] at hsz2
   clear hx hy hc hla hlb
   go_enter Tryz.func364,Tryz.ntmps364
   go_wp2
   go_ret
   exact ⟨rfl,Dr.refl _⟩
 · subst h
   by_cases h0:la=0
   · subst h0
     have e1:=(dig_nil_iff n).1 (List.eq_nil_of_length_eq_zero hla.symm)
     have e2:=(dig_nil_iff m).1 (List.eq_nil_of_length_eq_zero hlb.symm)
     have hc:cmpN n m=0:=by rw [e1,e2]; rfl
     rw [hc]
     clear hx hy hc hla hlb hsz hsz2 e1 e2
     go_enter Tryz.func364,Tryz.ntmps364
     go_wp2
     refine wp_loop_rounds 1 ?_
     rw [rounds_succ]
     go_wp2
     go_ret
     exact ⟨rfl,Dr.refl _⟩
   · obtain ⟨b,o,rfl,hc⟩:=hx.open_ (by omega)
     obtain ⟨b',o',rfl,hd⟩:=hy.open_ (by omega)
     exact under_cells (dig n) (dig m) b o b' o' la ca cb _ w hla.symm hlb.symm (by omega) (by omega) (Wf_dig n) (Wf_dig m) (by rw [val_dig,val_dig]) hc hd
 · have hc:cmpN n m=1:=by have:=dig_len_lt m n (by omega); rw [cmpN,if_neg (by omega),if_pos this]
   rw [hc]
   rw [← hla] at hsz
   rw [← hlb] at hsz2
   clear hx hy hc hla hlb
   go_enter Tryz.func364,Tryz.ntmps364
   go_wp2
   go_ret
   exact ⟨rfl,Dr.refl _⟩
end
section
open Go.RowKit
theorem more_core (A B:Option Addr) (la ca lb cb:Nat) (xs ys:List Nat) (v0 v1:Value) (w:World) (hx:Words w (.slice A la ca) xs) (hy:Words w (.slice B lb cb) ys) (hsz:la≤8589934592)
  (hv:(v0=.slice A la ca∧v1=.slice B lb cb∧lb≤la)∨(v1=.slice A la ca∧v0=.slice B lb cb∧lb<la)) :
  Calls Tryz.prog 370 #[v0,v1] w fun e w'=>∃ v zs,e=.returned v∧Words w' v zs∧val zs=val xs+val ys∧Below w.heap.size w w':=by
 have hla:=Lib.hid hx.len.1
 have hlb:=Lib.hid hy.len.1
 have HA:=Lib.hid hx
 have HB:=Lib.hid hy
 have hwx:=Lib.hid hx.1
 have hwy:=Lib.hid hy.1
 clear hx hy
 rcases hv with ⟨rfl,rfl,hle⟩ | ⟨rfl,rfl,hle⟩
 all_goals
  go_enter Tryz.func370,Tryz.ntmps370
  go_wp2_with (at_make; refine wpList_make_words rfl _ _ rfl _ _ _ _ (la+1) (la+1) rfl rfl (by omega) (by omega) (Nat.le_refl _) (by omega) ?_)
  intro w1 hbuf hb1 hz1
  have HZ:=Lib.hid hz1
  clear hz1
  go_wp2
  go_loopw [6,22] (fun c i wr=>∃ (k d:Nat) (zs:List Nat),k≤la∧d≤1∧c=.int .u64 (d:Int)∧i=.int .i64 (k:Int)∧Hid (zs.length=k)∧Hid (val zs+4294967296^k*d=val (xs.take k)+val (ys.take k))∧Buf wr w.heap.size (zs++List.replicate (la+1-k) 0)∧Below w.heap.size w wr) (fun _ i _=>la-(intOf i).toNat)
  case atStart=>exact ⟨0,0,[],by omega,by omega,rfl,rfl,rfl,by simp [Hid,val],by simpa using hbuf,hb1⟩
  case round =>
   obtain ⟨k,d,zs,hk,hd,rfl,rfl,HK,HV,hbuf',hb'⟩:=hrel
   have hlt:=hb'.size
   have hblt:=hbuf'.lt
   clear hbuf hb1 HZ
   by_cases hk1:k<la
   · have hX:=(HA.out.below hb')
     obtain ⟨b,o,rfl,hcx⟩:=hX.open_ (by omega)
     have hcx:=hcx k hk1
     have hxl:((xs[k]?.getD 0:Nat):Int)<4294967296:=by have:=hwx.out.get? k; omega
     have hst:=hbuf'.cell k (by rw [List.length_append,HK.out,List.length_replicate]; omega)
     have hfz:=hbuf'.frozen k
     have HBUF:=Lib.hid hbuf'
     clear hX hbuf'
     by_cases hk2:k<lb
     · have hY:=(HB.out.below hb')
       obtain ⟨b2,o2,rfl,hcy⟩:=hY.open_ (by omega)
       have hcy:=hcy k hk2
       have hyl:((ys[k]?.getD 0:Nat):Int)<4294967296:=by have:=hwy.out.get? k; omega
       clear hY
       go_wp2
       go_roundw
       case rel =>
        refine ⟨k+1,(d+xs.getD k 0+ys.getD k 0)/4294967296,zs++[(d+xs.getD k 0+ys.getD k 0) % 4294967296],by omega,by simp only [List.getD]; omega,?_,rfl,?_,more_val _ _ _ _ _ _ HK.out HV.out rfl,?_,hb'.setCell (Nat.le_refl _) _⟩
        · simp only [List.getD]; go_num
        · rw [Hid,List.length_append,HK.out]; rfl
        · have:=HBUF.out.push HK.out (by omega) ((d+xs.getD k 0+ys.getD k 0) % 4294967296) _ (by omega) (by simp only [List.getD]; try go_num)
          rw [show la+1-k-1=la+1-(k+1) from by omega] at this
          exact this
       case measure=>simp [intOf]; omega
     · have hy0:ys.getD k 0=0:=getD_out (by have:=hlb.out; omega)
       have HY0:=Lib.hid hy0
       clear hy0
       go_wp2
       go_roundw
       case rel =>
        refine ⟨k+1,(d+xs.getD k 0+ys.getD k 0)/4294967296,zs++[(d+xs.getD k 0+ys.getD k 0) % 4294967296],by omega,by rw [HY0.out]; simp only [List.getD]; omega,?_,rfl,?_,more_val _ _ _ _ _ _ HK.out HV.out rfl,?_,hb'.setCell (Nat.le_refl _) _⟩
        · rw [HY0.out]; simp only [List.getD]; go_num
        · rw [Hid,List.length_append,HK.out]; rfl
        · have:=HBUF.out.push HK.out (by omega) ((d+xs.getD k 0+ys.getD k 0) % 4294967296) _ (by omega) (by rw [HY0.out]; try (simp only [List.getD]; try go_num))
          rw [show la+1-k-1=la+1-(k+1) from by omega] at this
          exact this
       case measure=>simp [intOf]; omega
   · obtain rfl:k=la:=by omega
     have hst:=hbuf'.cell k (by rw [List.length_append,HK.out,List.length_replicate]; omega)
     have hfz:=hbuf'.frozen k
     have HBUF:=Lib.hid hbuf'
     clear hbuf'
     go_wp2
     go_ret
     have hpush:=HBUF.out.push HK.out (by omega) d _ (by omega) (by go_num)
     rw [show k+1-k-1=0 from by omega,List.replicate_zero,List.append_nil] at hpush
     have hlen:(zs++[d]).length=k+1:=by rw [List.length_append,HK.out]; rfl
     have hw:=hpush.words (cap:=k+1) (by rw [hlen]; omega) (by rw [hlen]; exact Nat.le_refl _)
     rw [hlen] at hw
     refine ⟨_,_,rfl,hw,?_,hb'.setCell (Nat.le_refl _) _⟩
     have h1:=HV.out
     rw [val_snoc,HK.out,h1,val_take_all _ _ (by rw [hla.out]; exact Nat.le_refl _),val_take_all _ _ (by rw [← hlb.out]; omega)]
theorem more_any {A B:Option Addr} {la ca lb cb:Nat} {xs ys:List Nat} {w:World} (hx:Words w (.slice A la ca) xs) (hy:Words w (.slice B lb cb) ys) (h1:la≤8589934592) (h2:lb≤8589934592) :
  Calls Tryz.prog 370 #[.slice A la ca,.slice B lb cb] w fun e w'=>∃ v zs,e=.returned v∧Words w' v zs∧val zs=val xs+val ys∧Below w.heap.size w w':=by
 rcases Nat.lt_or_ge la lb with h | h
 · refine (more_core B A lb cb la ca ys xs _ _ w hy hx h2 (.inr ⟨rfl,rfl,h⟩)).mono fun e w' ⟨v,zs,r1,r2,r3,r4⟩=>⟨v,zs,r1,r2,by omega,r4⟩
 · exact more_core A B la ca lb cb xs ys _ _ w hx hy h1 (.inl ⟨rfl,rfl,h⟩)
theorem less_any {A B:Option Addr} {la ca lb cb:Nat} {xs ys:List Nat} {w:World} (hx:Words w (.slice A la ca) xs) (hy:Words w (.slice B lb cb) ys) (hsz:la≤8589934592) (hle:val ys≤val xs) (hlen:lb≤la) :
  Calls Tryz.prog 371 #[.slice A la ca,.slice B lb cb] w fun e w'=>∃ v zs,e=.returned v∧Words w' v zs∧val zs=val xs-val ys∧Below w.heap.size w w':=by
 have hla:=Lib.hid hx.len.1
 have hlb:=Lib.hid hy.len.1
 have HA:=Lib.hid hx
 have HB:=Lib.hid hy
 have hwx:=Lib.hid hx.1
 have hwy:=Lib.hid hy.1
 have HL:=Lib.hid hle
 clear hx hy hle
 go_enter Tryz.func371,Tryz.ntmps371
 go_wp2_with (at_make; refine wpList_make_words rfl _ _ rfl _ _ _ _ la la rfl rfl rfl rfl (Nat.le_refl _) (by omega) ?_)
 intro w1 hbuf hb1 hz1
 have HZ:=Lib.hid hz1
 clear hz1
 go_wp2
 go_loopw [6,16] (fun c i wr=>∃ (k d:Nat) (zs:List Nat),k≤la∧d≤1∧c=.int .u64 (d:Int)∧i=.int .i64 (k:Int)∧Hid (zs.length=k)∧Hid (val zs+val (ys.take k)=val (xs.take k)+4294967296^k*d)∧Buf wr w.heap.size (zs++List.replicate (la-k) 0)∧Below w.heap.size w wr) (fun _ i _=>la-(intOf i).toNat)
 case atStart=>exact ⟨0,0,[],by omega,by omega,rfl,rfl,rfl,by simp [Hid,val],by simpa using hbuf,hb1⟩
 case round =>
  obtain ⟨k,d,zs,hk,hd,rfl,rfl,HK,HV,hbuf',hb'⟩:=hrel
  have hlt:=hb'.size
  have hblt:=hbuf'.lt
  clear hbuf hb1 HZ
  by_cases hk1:k<la
  · have hX:=(HA.out.below hb')
    obtain ⟨b,o,rfl,hcx⟩:=hX.open_ (by omega)
    have hcx:=hcx k hk1
    have hxl:=hwx.out.get? k
    have hst:=hbuf'.cell k (by rw [List.length_append,HK.out,List.length_replicate]; omega)
    have hfz:=hbuf'.frozen k
    have HBUF:=Lib.hid hbuf'
    clear hX hbuf'
    by_cases hk2:k<lb
    · have hY:=(HB.out.below hb')
      obtain ⟨b2,o2,rfl,hcy⟩:=hY.open_ (by omega)
      have hcy:=hcy k hk2
      have hyl:=hwy.out.get? k
      obtain ⟨D,z,d',hD,hDz,hDd,hz,hd',he⟩:=sub_word (xs[k]?.getD 0) (d+ys[k]?.getD 0) hxl (by omega)
      have HE:=Lib.hid he
      clear hY he
      rw [Int.natCast_add] at hD
      go_wp2
      go_roundw
      case rel =>
       refine ⟨k+1,d',zs++[z],by omega,hd',rfl,rfl,?_,less_val _ _ _ _ _ _ _ HK.out HV.out (by simpa only [List.getD] using HE.out),?_,hb'.setCell (Nat.le_refl _) _⟩
       · rw [Hid,List.length_append,HK.out]; rfl
       · have:=HBUF.out.push HK.out (by omega) z _ (by omega) rfl
         rw [show la-k-1=la-(k+1) from by omega] at this
         exact this
      case measure=>simp [intOf]; omega
    · have hy0:ys.getD k 0=0:=getD_out (by have:=hlb.out; omega)
      have HY0:=Lib.hid hy0
      obtain ⟨D,z,d',hD,hDz,hDd,hz,hd',he⟩:=sub_word (xs[k]?.getD 0) d hxl (by omega)
      have HE:=Lib.hid he
      clear hy0 he
      go_wp2
      go_roundw
      case rel =>
       refine ⟨k+1,d',zs++[z],by omega,hd',rfl,rfl,?_,less_val _ _ _ _ _ _ _ HK.out HV.out (by rw [HY0.out,Nat.add_zero]; simpa only [List.getD] using HE.out),?_,hb'.setCell (Nat.le_refl _) _⟩
       · rw [Hid,List.length_append,HK.out]; rfl
       · have:=HBUF.out.push HK.out (by omega) z _ (by omega) rfl
         rw [show la-k-1=la-(k+1) from by omega] at this
         exact this
      case measure=>simp [intOf]; omega
  · obtain rfl:k=la:=by omega
    rw [Nat.sub_self,List.replicate_zero,List.append_nil] at hbuf'
    have hw:=hbuf'.words (cap:=k) (by rw [HK.out]; omega) (by rw [HK.out]; exact Nat.le_refl _)
    have hzw:=hbuf'.1
    rw [HK.out] at hw
    have HW:=Lib.hid hw
    clear hw hbuf'
    go_wp2
    go_ret
    refine ⟨_,_,rfl,HW.out,less_end xs ys zs k d hzw HK.out ?_ HL.out hd,hb'⟩
    have h1:=HV.out
    rw [val_take_all ys _ (by rw [← hlb.out]; omega),val_take_all xs _ (by rw [hla.out]; exact Nat.le_refl _)] at h1
    exact h1
end
section
open Go.RowKit
set_option maxHeartbeats 1000000 in
theorem product_any {A B:Option Addr} {la ca lb cb:Nat} {xs ys:List Nat} {w:World} (hx:Words w (.slice A la ca) xs) (hy:Words w (.slice B lb cb) ys) (h1:la≤8589934592) (h2:lb≤8589934592) :
  Calls Tryz.prog 346 #[.slice A la ca,.slice B lb cb] w fun e w'=>∃ v zs,e=.returned v∧Words w' v zs∧val zs=val xs*val ys∧Below w.heap.size w w':=by
 have hla:=Lib.hid hx.len.1
 have hlb:=Lib.hid hy.len.1
 have HA:=Lib.hid hx
 have HB:=Lib.hid hy
 have hwx:=Lib.hid hx.1
 have hwy:=Lib.hid hy.1
 clear hx hy
 go_enter Tryz.func346,Tryz.ntmps346
 go_wp2_with (at_make; refine wpList_make_words rfl _ _ rfl _ _ _ _ (la+lb) (la+lb) rfl rfl (by omega) (by omega) (Nat.le_refl _) (by omega) ?_)
 intro w1 hbuf hb1 hz1
 have HZ:=Lib.hid hz1
 clear hz1
 go_wp2
 go_loopw [19] (fun i wr=>∃ (k:Nat) (os:List Nat),k≤la∧i=.int .i64 (k:Int)∧Hid (os.length=la+lb)∧Hid (val os=val (xs.take k)*val ys)∧Hid (∀ j,k+lb≤j→os.getD j 0=0)∧Buf wr w.heap.size os∧Below w.heap.size w wr) (fun i _=>la-(intOf i).toNat)
 case atStart=>exact ⟨0,List.replicate (la+lb) 0,by omega,rfl,by simp [Hid],by simp [Hid,val,val_zeros],fun j _=>by simp [List.getD,List.getElem?_replicate]; split<;>rfl,hbuf,hb1⟩
 case round =>
  obtain ⟨i,os,hi,rfl,HK,HV,H0,hbuf',hb'⟩:=hrel
  obtain ⟨wo,rfl⟩:∃ wo:World,wo=wr:=⟨_,rfl⟩
  clear hbuf hb1 HZ
  by_cases hk1:i<la
  · have hX:=(HA.out.below hb')
    obtain ⟨b,o,rfl,hcx⟩:=hX.open_ (by omega)
    have hcx:=hcx i hk1
    have hxl:=hwx.out.get? i
    have HBUF:=Lib.hid hbuf'
    clear hX hbuf'
    go_wp2
    go_loopw [8,26] (fun c j wr=>∃ (k d:Nat) (os':List Nat),k≤lb∧d<4294967296∧c=.int .u64 (d:Int)∧j=.int .i64 (k:Int)∧Hid (os'.length=la+lb)∧Hid (val os'+4294967296^(i+k)*d=val os+4294967296^i*(xs.getD i 0*val (ys.take k)))∧Hid (∀ j,i+lb≤j→os'.getD j 0=0)∧Buf wr w.heap.size os'∧Below w.heap.size w wr) (fun _ j _=>lb-(intOf j).toNat)
    case atStart=>exact ⟨0,0,os,by omega,by omega,rfl,rfl,HK,by simp [Hid,val],H0,HBUF.out,hb'⟩
    case round =>
     obtain ⟨k,d,os',hk,hd,rfl,rfl,HK',HV',H0',hbuf2,hb2⟩:=hrel
     have hlt:=hb2.size
     have hblt:=hbuf2.lt
     clear hb' hcx
     by_cases hk2:k<lb
     · have hY:=(HB.out.below hb2)
       obtain ⟨b2,o2,rfl,hcy⟩:=hY.open_ (by omega)
       have hcy:=hcy k hk2
       have hyl:=hwy.out.get? k
       have hst:=hbuf2.cell (i+k) (by rw [HK'.out]; omega)
       have hfz:=hbuf2.frozen (i+k)
       have hol:=hbuf2.1.get? (i+k)
       obtain ⟨m,hm⟩:∃ m,m=xs[i]?.getD 0*ys[k]?.getD 0:=⟨_,rfl⟩
       have hmb:m≤18446744065119617025:=by rw [hm]; exact mul_word _ _ hxl hyl
       have hmi:((xs[i]?.getD 0:Nat):Int)*((ys[k]?.getD 0:Nat):Int)=(m:Int):=by rw [hm]; exact (Int.natCast_mul _ _).symm
       have HM:=Lib.hid hm
       have HBUF2:=Lib.hid hbuf2
       clear hY hbuf2 hm HBUF
       go_wp2
       go_roundw
       case rel =>
        refine ⟨k+1,(d+(m+os'.getD (i+k) 0))/4294967296,os'.set (i+k) ((d+(m+os'.getD (i+k) 0)) % 4294967296),by omega,by simp only [List.getD]; omega,by simp only [List.getD]; go_num,rfl,?_,?_,?_,?_,hb2.setCell (Nat.le_refl _) _⟩
        · rw [Hid,List.length_set]; exact HK'.out
        · exact prod_val os os' ys i k d (xs.getD i 0) _ (by rw [HK'.out]; omega) HV'.out (by rw [HM.out]; rfl)
        · intro j hj
          rw [getD_set,if_neg (by omega)]
          exact H0'.out j hj
        · exact HBUF2.out.set (i+k) _ _ (by omega) (by simp only [List.getD]; go_num)
       case measure=>simp [intOf]; omega
     · obtain rfl:k=lb:=by omega
       have hst:=hbuf2.cell (i+k) (by rw [HK'.out]; omega)
       have hfz:=hbuf2.frozen (i+k)
       have HBUF2:=Lib.hid hbuf2
       clear hbuf2 HBUF
       go_wp2
       go_roundw
       case rel =>
        refine ⟨i+1,os'.set (i+k) d,by omega,rfl,?_,?_,?_,HBUF2.out.set (i+k) d _ hd (by go_num),hb2.setCell (Nat.le_refl _) _⟩
        · rw [Hid,List.length_set]; exact HK'.out
        · have h1:=HV'.out
          rw [val_take_all ys k (by rw [hlb.out]; exact Nat.le_refl _)] at h1
          have hl:=hlb.out
          have h2:=H0'.out (i+k) (Nat.le_refl _)
          rw [hl] at h1 h2 ⊢
          exact prod_end os os' xs ys i d (by rw [HK'.out]; omega) h2 HV.out h1
        · intro j hj
          rw [getD_set]
          split
          · omega
          · exact H0'.out j (by omega)
       case measure=>simp [intOf]; omega
  · obtain rfl:i=la:=by omega
    have hw:=hbuf'.words (cap:=i+lb) (by rw [HK.out]; omega) (by rw [HK.out]; exact Nat.le_refl _)
    rw [HK.out] at hw
    have HW:=Lib.hid hw
    clear hw hbuf'
    go_wp2
    go_ret
    refine ⟨_,_,rfl,HW.out,?_,hb'⟩
    rw [HV.out,val_take_all xs _ (by rw [hla.out]; exact Nat.le_refl _)]
end
section
open Go.RowKit
theorem left_any {A:Option Addr} {la ca:Nat} {xs:List Nat} {w:World} (hx:Words w (.slice A la ca) xs) (h1:la≤8589934592) (n:Nat) (hn:n≤137438953472) :
  Calls Tryz.prog 377 #[.slice A la ca,.int .i64 (n:Int)] w fun e w'=>∃ v,e=.returned v∧Words w' v (dig (val xs*2^n))∧Below w.heap.size w w':=by
 have hla:=Lib.hid hx.len.1
 have HA:=Lib.hid hx
 have hwx:=Lib.hid hx.1
 clear hx
 obtain ⟨s,hs⟩:∃ s,s=n % 32:=⟨_,rfl⟩
 have hs32:s<32:=by omega
 have hsi:(n:Int) % 32=(s:Int):=by omega
 have HS:=Lib.hid hs
 clear hs
 go_enter Tryz.func377,Tryz.ntmps377
 go_wp2_with (at_make; refine wpList_make_words rfl _ _ rfl _ _ _ _ (n/32) (n/32+la+1) rfl rfl (by omega) (by omega) (by omega) (by omega) ?_)
 intro w1 hbuf hb1 hz1
 have HROW:=Lib.hid (Row.of_buf (n:=n/32) hbuf (Nat.le_refl _) (by omega) (by omega))
 have HZ:=Lib.hid hz1
 clear hz1 hbuf
 go_wp2
 go_loopw [5,6,20] (fun v c i wr=>∃ (k d:Nat) (ys:List Nat),k≤la∧Hid (d<2^s)∧c=.int .u64 (d:Int)∧i=.int .i64 (k:Int)∧Hid (ys.length=k)∧Hid (val ys+4294967296^k*d=val (xs.take k)*2^s)∧Hid (Row wr w.heap.size v (List.replicate (n/32) 0++ys))∧Below w.heap.size w wr) (fun _ _ i _=>la-(intOf i).toNat)
 case atStart=>exact ⟨0,0,[],by omega,Nat.two_pow_pos _,rfl,rfl,rfl,by simp [Hid,val],by simpa [Hid] using HROW.out,hb1⟩
 case round =>
  obtain ⟨k,d,ys,hk,HD,rfl,rfl,HK,HV,hrow',hb'⟩:=hrel
  have hlt:=hb'.size
  clear HROW hb1 HZ
  by_cases hk1:k<la
  · have hX:=(HA.out.below hb')
    obtain ⟨b,o,rfl,hcx⟩:=hX.open_ (by omega)
    have hcx:=hcx k hk1
    have hxl:=hwx.out.get? k
    obtain ⟨m,hm⟩:∃ m,m=xs[k]?.getD 0*2^s:=⟨_,rfl⟩
    have hmi:((xs[k]?.getD 0:Nat):Int)*2^s=(m:Int):=by rw [hm,Int.natCast_mul,Int.natCast_pow]; rfl
    have hmb:=mul_two_pow_lt (xs[k]?.getD 0) s hxl (by omega)
    rw [← hm] at hmb
    have hsp:2^s≤2^32:=Nat.pow_le_pow_right (by omega) (by omega)
    have hp:=Nat.two_pow_pos s
    have hd1:=HD.out
    have hm1:m≤18446744073709551615:=by omega
    have hd2:d≤4294967296:=by omega
    have hor:bits BinOp.or IntKind.u64 (d:Int) (m:Int)=((d+m:Nat):Int):=by rw [bits_or_u64_nat d m (by omega) (by omega),hm,or_add _ _ _ hd1]
    rw [Int.natCast_add] at hor
    have hsum:d+m≤18446744073709551615:=by omega
    have HM:=Lib.hid hm
    clear hX hm hmb hsp hp hd1
    go_wp2_with (at_builtin; refine wpList_append_word rfl (.tmp 31) (.tmp 34) rfl w.heap.size _ (List.replicate (n/32) 0++ys) rfl (hrow'.out.alloc _) ⟨wr.heap.size,0,none⟩ 1 ((d+m) % 4294967296) _ rfl (cell_new0 _ _ _) ?_ (by omega) ?_ ?_ ?_)
    · omega
    · simp only [List.length_append,List.length_replicate,HK.out]; omega
    · simp; omega
    · intro v' w' hrow2 hb2
      have HR2:=Lib.hid hrow2
      have hb3:Below w.heap.size w w':=(hb'.alloc (by omega) _).trans hb2
      clear hrow2 hb2 hb'
      go_wp2
      go_roundw
      case rel =>
       refine ⟨k+1,(d+m)/4294967296,ys++[(d+m) % 4294967296],by omega,?_,by go_num,rfl,?_,?_,HR2.out,hb3⟩
       · rw [Hid,HM.out]; exact left_carry _ s d hxl (by omega) HD.out
       · rw [Hid,List.length_append,HK.out]; rfl
       · exact left_val xs ys k d s _ HK.out HV.out (by rw [HM.out]; rfl)
      case measure=>simp [intOf]; omega
  · obtain rfl:k=la:=by omega
    have hsp:2^s≤2^32:=Nat.pow_le_pow_right (by omega) (by omega)
    have hd1:d<4294967296:=by have:=HD.out; omega
    clear hsp
    go_wp2_with (at_builtin; refine wpList_append_word rfl (.tmp 39) (.tmp 42) rfl w.heap.size _ (List.replicate (n/32) 0++ys) rfl (hrow'.out.alloc _) ⟨wr.heap.size,0,none⟩ 1 d _ rfl (cell_new0 _ _ _) ?_ hd1 ?_ ?_ ?_)
    · omega
    · simp only [List.length_append,List.length_replicate,HK.out]; omega
    · simp; omega
    · intro v' w' hrow2 hb2
      have hb3:Below w.heap.size w w':=(hb'.alloc (by omega) _).trans hb2
      have hw:=hrow2.words (by simp only [List.length_append,List.length_replicate,HK.out,List.length_cons,List.length_nil]; omega)
      have HW:=Lib.hid hw
      obtain ⟨A',L',cap',rfl⟩:=hw.form
      clear hrow2 hb2 hb' hw
      go_wp2_with (go_at_call 376; refine (cut_any HW.out).mono ?_; rintro e w2 ⟨rfl,rfl⟩)
      go_ret
      refine ⟨_,rfl,?_,hb3⟩
      have h2:=HW.out.trim_
      have h3:trim (List.replicate (n/32) 0++(ys++[d]))=dig (val xs*2^n):=by
       refine dig_of _ _ HW.out.1 (left_end xs ys n d ?_)
       have:=HV.out
       rw [val_take_all xs _ (by rw [hla.out]; exact Nat.le_refl _),HS.out] at this
       rw [HK.out]; exact this
      rw [← h3]
      exact h2
theorem or_two (a x:Nat) (ha:a<4294967296) (hx:x<4294967296):bits BinOp.or IntKind.u64 ((a:Int)*4294967296) (x:Int)=((a*4294967296+x:Nat):Int):=by
 have:=bits_or_u64_nat (a*4294967296) x (by omega) (by omega)
 rw [or_word a x hx] at this
 rw [← this]; rfl
theorem or_two' (a x:Nat) (ha:a<4294967296) (hx:x<4294967296):bits BinOp.or IntKind.u64 (x:Int) ((a:Int)*4294967296)=((a*4294967296+x:Nat):Int):=by
 have:=bits_or_u64_nat x (a*4294967296) (by omega) (by omega)
 rw [Nat.or_comm,or_word a x hx] at this
 rw [← this]; rfl
theorem short_any {A:Option Addr} {la ca:Nat} {xs:List Nat} {w:World} (hx:Words w (.slice A la ca) xs) (h1:la≤17179869184) (d:Nat) (hd0:0<d) (hd:d<4294967296) :
  Calls Tryz.prog 368 #[.slice A la ca,.int .u32 (d:Int)] w fun e w'=>∃ v,e=.returned (.tuple #[v,.int .u32 ((val xs % d:Nat):Int)])∧Words w' v (dig (val xs/d))∧Below w.heap.size w w':=by
 have hla:=Lib.hid hx.len.1
 have HA:=Lib.hid hx
 have hwx:=Lib.hid hx.1
 clear hx
 have hd1:(1:Int)≤(d:Int):=by omega
 go_enter Tryz.func368,Tryz.ntmps368
 go_wp2_with (at_make; refine wpList_make_words rfl _ _ rfl _ _ _ _ la la rfl rfl rfl rfl (by omega) (by omega) ?_)
 intro w1 hbuf hb1 hz1
 have HZ:=Lib.hid hz1
 clear hz1
 go_wp2
 go_loopw [7,8] (fun c i wr=>∃ (k r:Nat) (qs:List Nat),k≤la∧r<d∧c=.int .u64 (r:Int)∧i=.int .i64 ((k:Int)-1)∧Hid (qs.length=la-k)∧Hid (val qs*d+r=val (xs.drop k))∧Buf wr w.heap.size (List.replicate k 0++qs)∧Below w.heap.size w wr) (fun _ i _=>(intOf i+1).toNat)
 case atStart=>exact ⟨la,0,[],by omega,hd0,rfl,rfl,by simp [Hid],by rw [Hid,List.drop_of_length_le (by rw [hla.out]; exact Nat.le_refl _)]; simp [val],by simpa using hbuf,hb1⟩
 case round =>
  obtain ⟨k,r,qs,hk,hr,rfl,rfl,HK,HV,hbuf',hb'⟩:=hrel
  have hlt:=hb'.size
  have hblt:=hbuf'.lt
  clear hbuf hb1 HZ
  by_cases hk0:0<k
  · obtain ⟨k,rfl⟩:∃ j,k=j+1:=⟨k-1,by omega⟩
    have e1:((k+1:Nat):Int)-1=(k:Int):=by omega
    rw [e1]
    clear e1
    have hX:=(HA.out.below hb')
    obtain ⟨b,o,rfl,hcx⟩:=hX.open_ (by omega)
    have hcx:=hcx k (by omega)
    have hxl:=hwx.out.get? k
    have hst:=hbuf'.cell k (by rw [List.length_append,HK.out,List.length_replicate]; omega)
    have hfz:=hbuf'.frozen k
    have HBUF:=Lib.hid hbuf'
    have hor:=or_two r (xs[k]?.getD 0) (by omega) hxl
    obtain ⟨t,ht⟩:∃ t,t=r*4294967296+xs[k]?.getD 0:=⟨_,rfl⟩
    rw [← ht] at hor
    have htb:t≤18446744073709551615:=by omega
    obtain ⟨q,hqd⟩:∃ q,q=t/d:=⟨_,rfl⟩
    obtain ⟨r',hrd⟩:∃ r',r'=t % d:=⟨_,rfl⟩
    have hq:((t:Int)/(d:Int))=(q:Int):=by rw [hqd]; rfl
    have hq2:((t:Int) % (d:Int))=(r':Int):=by rw [hrd]; rfl
    have hqb:q≤4294967295:=by have:=short_word r d (xs[k]?.getD 0) hr hxl; rw [← ht,← hqd] at this; omega
    have hrb:r'<d:=by rw [hrd]; exact Nat.mod_lt _ hd0
    have HQ:=Lib.hid hqd
    have HR:=Lib.hid hrd
    have HT:=Lib.hid ht
    have hk1:(0:Int)≤(k:Int):=by omega
    clear hX hbuf' ht hqd hrd
    go_wp2
    go_roundw
    case rel =>
     refine ⟨k,r',q::qs,by omega,hrb,by rw [hq2],rfl,?_,by rw [HQ.out,HR.out]; exact short_val xs qs k r d t (by have:=hla.out; omega) HV.out (by rw [HT.out]; rfl),?_,hb'.setCell (Nat.le_refl _) _⟩
     · rw [Hid,List.length_cons,HK.out]; omega
     · have:=HBUF.out.set k q _ (by omega) rfl
       rw [set_zero_append] at this
       exact this
    case measure=>simp [intOf]
  · obtain rfl:k=0:=by omega
    rw [List.replicate_zero,List.nil_append] at hbuf'
    have hw:=hbuf'.words (cap:=la) (by rw [HK.out]; omega) (by rw [HK.out]; omega)
    rw [HK.out,Nat.sub_zero] at hw
    have HW:=Lib.hid hw
    have hend:=Lib.hid (short_end xs qs r d hr (by have:=HV.out; rwa [List.drop_zero] at this))
    clear hbuf' hw
    go_wp2_with (go_at_call 376; refine (cut_any HW.out).mono ?_; rintro e w2 ⟨rfl,rfl⟩)
    go_ret2
    refine ⟨.slice (some ⟨w.heap.size,0,none⟩) (trim qs).length la,?_,?_,hb'⟩
    · rw [← hend.out.2]; rfl
    · rw [← dig_of qs _ HW.out.1 hend.out.1]
      exact HW.out.trim_
theorem right_any {A:Option Addr} {la ca:Nat} {xs:List Nat} {w:World} (hx:Words w (.slice A la ca) xs) (h1:la≤17179869184) (n:Nat) (hn:n≤1099511627776) :
  Calls Tryz.prog 378 #[.slice A la ca,.int .i64 (n:Int)] w fun e w'=>∃ v,e=.returned v∧Words w' v (dig (val xs/2^n))∧Below w.heap.size w w':=by
 have hla:=Lib.hid hx.len.1
 have hlc:=hx.len.2
 by_cases h0:la≤n/32
 · have HE:=Lib.hid (shr_none xs n hx.1 (by rw [← hla.out]; exact h0))
   have h0':(la:Int)≤(n:Int)/32:=by omega
   clear hx
   go_enter Tryz.func378,Tryz.ntmps378
   go_wp2
   go_ret
   refine ⟨_,rfl,?_,Below.refl _ _⟩
   rw [HE.out,dig_zero]
   exact Words.nil w
 · have h0':(n:Int)/32<(la:Int):=by omega
   obtain ⟨s,hs⟩:∃ s,s=n % 32:=⟨_,rfl⟩
   have hs32:s<32:=by omega
   have hsi:(n:Int) % 32=(s:Int):=by omega
   obtain ⟨q,hq⟩:∃ q,q=n/32:=⟨_,rfl⟩
   have hqi:(n:Int)/32=(q:Int):=by omega
   have hqla:q<la:=by omega
   have HE:=shr_words xs n hx.1 (by rw [← hla.out]; omega)
   rw [← hs,← hq] at HE
   have hd:=Words.drop (xs:=xs) (by have:=hx; rw [hla.out] at this; exact this) q (by rw [← hla.out]; omega)
   rw [← hla.out] at hd
   obtain ⟨b,o,rfl,_⟩:=hx.open_ (by omega)
   have hadd:(Option.map (fun x:Addr=>x.add q) (some ⟨b,o,none⟩):Option Addr)=some ⟨b,o+q,none⟩:=by
    simp only [Option.map_some,Addr.add]
    split
    · rename_i h; subst h; rfl
    · rfl
   rw [hadd] at hd
   have HD:=Lib.hid hd
   have hwy:=Lib.hid hd.1
   have hly:=Lib.hid hd.len.1
   have HE2:=Lib.hid HE
   obtain ⟨ys,hys⟩:∃ ys,ys=xs.drop q:=⟨_,rfl⟩
   rw [← hys] at HD hwy hly HE2
   clear hx hadd hd HE hs hq hys h0 h0'
   go_enter Tryz.func378,Tryz.ntmps378
   go_wp2_with (at_make; refine wpList_make_words rfl _ _ rfl _ _ _ _ (la-q) (la-q) rfl rfl (by omega) (by omega) (by omega) (by omega) ?_)
   intro w1 hbuf hb1 hz1
   have HZ:=Lib.hid hz1
   clear hz1
   go_wp2
   go_loopw [23] (fun i wr=>∃ (k:Nat),k≤la-q∧i=.int .i64 (k:Int)∧Buf wr w.heap.size ((shrL s ys).take k++List.replicate (la-q-k) 0)∧Below w.heap.size w wr) (fun i _=>la-q-(intOf i).toNat)
   case atStart=>exact ⟨0,by omega,rfl,by simpa using hbuf,hb1⟩
   case round =>
    obtain ⟨k,hk,rfl,hbuf',hb'⟩:=hrel
    have hlt:=hb'.size
    have hblt:=hbuf'.lt
    clear hbuf hb1 HZ
    have hkl:((shrL s ys).take k).length=k:=by rw [List.length_take,shrL_length,← hly.out]; omega
    by_cases hk1:k<la-q
    · have hki:(k:Int)<((la-q:Nat):Int):=by omega
      have hX:=(HD.out.below hb')
      obtain ⟨b',o',he',hcx⟩:=hX.open_ (by omega)
      injection he' with he'
      injection he' with e1 e2 _
      subst e1 e2
      have hcx1:=hcx k (by omega)
      have hxl:=hwy.out.get? k
      have hst:=hbuf'.cell k (by rw [List.length_append,hkl,List.length_replicate]; omega)
      have hfz:=hbuf'.frozen k
      have HBUF:=Lib.hid hbuf'
      have HKL:=Lib.hid hkl
      clear hX hbuf' hkl
      by_cases hk2:k+1<la-q
      · have hki2:(k:Int)+1<((la-q:Nat):Int):=by omega
        have hcx2:=hcx (k+1) hk2
        have hxl2:=hwy.out.get? (k+1)
        have hor:=or_two' (ys[k+1]?.getD 0) (ys[k]?.getD 0) hxl2 hxl
        obtain ⟨t,ht⟩:∃ t,t=ys[k+1]?.getD 0*4294967296+ys[k]?.getD 0:=⟨_,rfl⟩
        rw [← ht] at hor
        have htb:t≤18446744073709551615:=by omega
        obtain ⟨u,hu⟩:∃ u,u=t/2^s:=⟨_,rfl⟩
        have hui:(t:Int)/2^s=(u:Int):=by rw [hu,Int.natCast_ediv,Int.natCast_pow]; rfl
        have HU:=Lib.hid hu
        have HT:=Lib.hid ht
        clear hcx hu ht
        go_wp2
        go_roundw
        case rel =>
         refine ⟨k+1,by omega,rfl,?_,hb'.setCell (Nat.le_refl _) _⟩
         have h:=HBUF.out.push HKL.out (by omega) (u % 4294967296) ((u:Int) % 4294967296) (by omega) (by omega)
         rw [shrL_take s ys k (by rw [← hly.out]; exact hk1)]
         have e:(ys.getD k 0+4294967296*ys.getD (k+1) 0)/2^s=u:=by rw [HU.out,HT.out,Nat.add_comm,Nat.mul_comm]; rfl
         rw [e,show la-q-(k+1)=la-q-k-1 from by omega]
         exact h
        case measure=>simp [intOf]; omega
      · have hki2:¬ (k:Int)+1<((la-q:Nat):Int):=by omega
        have hy0:ys.getD (k+1) 0=0:=getD_out (by rw [← hly.out]; omega)
        have HY0:=Lib.hid hy0
        obtain ⟨u,hu⟩:∃ u,u=ys[k]?.getD 0/2^s:=⟨_,rfl⟩
        have hui:((ys[k]?.getD 0:Nat):Int)/2^s=(u:Int):=by rw [hu,Int.natCast_ediv,Int.natCast_pow]; rfl
        have HU:=Lib.hid hu
        clear hcx hu hy0
        go_wp2
        go_roundw
        case rel =>
         refine ⟨k+1,by omega,rfl,?_,hb'.setCell (Nat.le_refl _) _⟩
         have h:=HBUF.out.push HKL.out (by omega) (u % 4294967296) ((u:Int) % 4294967296) (by omega) (by omega)
         rw [shrL_take s ys k (by rw [← hly.out]; exact hk1)]
         have e:(ys.getD k 0+4294967296*ys.getD (k+1) 0)/2^s=u:=by rw [HU.out,HY0.out]; rfl
         rw [e,show la-q-(k+1)=la-q-k-1 from by omega]
         exact h
        case measure=>simp [intOf]; omega
    · obtain rfl:k=la-q:=by omega
      rw [Nat.sub_self,List.replicate_zero,List.append_nil,List.take_of_length_le (by rw [shrL_length,← hly.out]; exact Nat.le_refl _)] at hbuf'
      have hw:=hbuf'.words (cap:=la-q) (by rw [shrL_length,← hly.out]; omega) (by rw [shrL_length,← hly.out]; exact Nat.le_refl _)
      rw [shrL_length,← hly.out] at hw
      have HW:=Lib.hid hw
      clear hbuf' hw hkl
      go_wp2_with (go_at_call 376; refine (cut_any HW.out).mono ?_; rintro e w2 ⟨rfl,rfl⟩)
      go_ret
      refine ⟨_,rfl,?_,hb'⟩
      rw [← HE2.out,← val_shrL s ys hwy.out hs32,← dig_of _ _ (Wf_shrL s ys) rfl]
      exact HW.out.trim_
end
end Go.Proofs.YtmfedaakeeiolaaGreat
end
