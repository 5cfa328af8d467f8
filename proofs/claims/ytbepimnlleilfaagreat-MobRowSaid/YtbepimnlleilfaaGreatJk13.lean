/- Row, Osp, GsB, L4, CiA, CiB, CiE, G1, MtA, SyM, MtH, LsF, MaA, RoA, SyV, Bwo, RoB, RoC, Mpp. -/
import Derived.Deep.MidRow
import Derived.Test.YtbepimnlleilfaaGreatJk12
set_option linter.unnecessarySimpa false
set_option linter.unusedVariables false
set_option linter.unusedSimpArgs false
section
namespace Go.Proofs.YtbepimnlleilfaaGreat.Y
open Go Go.RowKit
set_option maxRecDepth 100000
def adOf:SV→Nat × Nat
 | .one (.c (.b (.p k o)))=>(k,o)
 | _=>(0,0)
structure CSpec (P:Program) where
 f:FuncId
 en:Enters P f
 args:List SV
 cs:List Lf
 t:TypeId
 res:SV
 news:List Thing
 ok:∀ β w,(Ob.box cs t).holds β w (β 0)→Calls P f (args.map (SV.den β)).toArray w fun e w'=>∃ xs:List Pl,(∀ x∈xs,∀ c,x.F c→w.heap.size≤c)∧e=.returned (res.den (extE β 1 xs))∧newHold w' news xs∧Below w.heap.size w w'
 cl:(cs.all (Lf.of fun _=>false)&&args.all (SV.of fun k=>Nat.beq k 0)&&res.of fun k=>Nat.ble 1 k&&Nat.blt k (1+news.length))=true
def bkOfY:List SV→Nat
 | []=>0
 | .one (.c (.b (.s k _ _ _)))::_=>k
 | _::r=>bkOfY r
def CSpec.e {P:Program} (S:CSpec P):Ev P:=.dyn (fun o _ _=>isCallB o) fun _ xs ob=>lit (bkOfY xs) fun i=>lit ob.length fun n =>
 .call S.f S.en (fun β=>(S.args.map (SV.den fun _=>β i)).toArray) [(i,.box S.cs S.t)] n (S.res.ren fun k=>n+(k-1)) S.news (fun β w h=>by
  have hc:=S.cl
  simp only [Bool.and_eq_true] at hc
  have h1:(β i).one∧w.heap[(β i).b]?=some (.cells (S.cs.map (Lf.den β)).toArray S.t (0,0)):=h _ (List.mem_singleton.2 rfl)
  refine (S.ok (fun _=>β i) w ?_).mono fun e w' ⟨xs,k1,k2,k3,k4⟩=>⟨xs,fun x hx c hc=>.inl (k1 x hx c hc),?_,k3,k4⟩
  · show (β i).one∧w.heap[(β i).b]?=some (.cells (S.cs.map (Lf.den fun _=>β i)).toArray S.t (0,0))
    rw [show S.cs.map (Lf.den fun _=>β i)=S.cs.map (Lf.den β) from List.map_congr_left fun x hx=>Lf.den_congr (q:=fun _=>false) (fun k hk=>by cases hk) x (List.all_eq_true.1 hc.1.1 x hx)]
    exact h1
  · rw [k2,SV.den_ren]
    congr 1
    refine SV.den_congr (fun k hk=>?_) _ hc.2
    have hlen:=(newHold_get k3).1
    rw [Bool.and_eq_true,Nat.ble_eq,Nat.blt_eq] at hk
    have h5:k-1<xs.length:=by omega
    rw [extE_in (List.getElem?_eq_getElem h5)]
    have:=extE_in (β:=fun _=>β i) (n:=1) (List.getElem?_eq_getElem h5)
    rw [show 1+(k-1)=k by omega] at this
    exact this)
def Ob.ren (ρ:Nat→Nat):Ob→Ob
 | .box cs t=>.box (cs.map (Lf.ren ρ)) t
 | x=>x
def ptrB:Option Lf→Bool
 | some (.b (.z _ _))=>true
 | some (.b (.p _ _))=>true
 | some (.b (.v (.string _)))=>true
 | _=>false
def Ob.plainB:Ob→Bool
 | .box cs _=>Nat.blt cs.length 4||ptrB cs[1]?
 | .th _=>true
 | _=>false
theorem Ob.holds_ren {β:Env} {w:World} {g:Pl} {ρ:Nat→Nat}:∀ {o:Ob},o.plainB=true→(o.ren ρ).holds β w g→o.holds (fun k=>β (ρ k)) w g
 | .box cs t,_,h=>⟨h.1,by
  rw [h.2,List.map_map]
  rw [show (Lf.den β ∘ Lf.ren ρ)=Lf.den (fun k=>β (ρ k)) from funext fun x=>Lf.den_ren β ρ x]⟩
 | .th _,_,h=>h
theorem Ob.holds_cg {q:Nat→Bool} {β β':Env} {w:World} {g:Pl} (hq:∀ k,q k=true→β k=β' k):∀ {o:Ob},o.plainB=true→o.of q=true→o.holds β w g→o.holds β' w g
 | .box cs t,_,h,k=>⟨k.1,by rw [k.2,all_congr h (Lf.den_congr hq)]⟩
 | .th _,_,_,k=>k
structure OSpec (P:Program) where
 f:FuncId
 en:Enters P f
 args:List SV
 obs:List Ob
 res:SV
 news:List Rat
 ok:∀ β w,(∀ (k:Nat) (o:Ob),obs[k]?=some o→o.holds β w (β k))→Calls P f (args.map (SV.den β)).toArray w fun e w'=>∃ xs:List Pl,(∀ x∈xs,∀ c,x.F c→w.heap.size≤c∨∃ i o,obs[i]?=some o∧o.isTh=true∧(β i).F c)∧e=.returned (res.den (extE β obs.length xs))∧newHold w' (news.map ratT) xs∧Below w.heap.size w w'
 closed:(args.all (SV.of fun k=>Nat.blt k obs.length)&&obs.all (fun x=>x.of (fun k=>Nat.blt k obs.length)&&x.plainB)&&res.of fun k=>Nat.blt k (obs.length+news.length))=true
def mtBox (o c:Ob):List (Nat × Nat):=match o,c with
 | .box xs _,.box ys _=>mtLs xs ys
 | _,_=>[]
def mtObs (obs ob:List Ob):List (Nat × Nat)→List (Nat × Nat)
 | []=>[]
 | (k,j)::r=>(match obs[k]?,ob[j]? with | some o,some c=>mtBox o c | _,_=>[])++mtObs obs ob r
def sigO {P:Program} (S:OSpec P) (xs:List SV) (ob:List Ob):List Nat:=sigL (mtVs S.args xs++mtObs S.obs ob (mtVs S.args xs)) 0 S.obs.length
def needsO (σ:List Nat) (ρ:Nat→Nat):List Ob→Nat→List (Nat × Ob)
 | [],_=>[]
 | o::r,k=>(lit (σ.getD k 0) fun j=>j,o.ren ρ)::needsO σ ρ r (k+1)
theorem needsO_at {σ:List Nat} {ρ:Nat→Nat}:∀ {l:List Ob} {i k:Nat} {o:Ob},l[k]?=some o→(σ.getD (i+k) 0,o.ren ρ)∈needsO σ ρ l i
 | x::r,i,0,o,h=>by
  simp only [List.getElem?_cons_zero] at h
  obtain rfl:=Option.some.inj h
  unfold needsO
  rw [lit_eq]
  exact List.mem_cons_self ..
 | x::r,i,k+1,o,h=>by
  have:=needsO_at (σ:=σ) (ρ:=ρ) (l:=r) (i:=i+1) (k:=k) (o:=o) (by simpa using h)
  rw [show i+(k+1)=i+1+k by omega]
  exact List.mem_cons_of_mem _ this
def OSpec.ev {P:Program} (S:OSpec P) (σ:List Nat) (n:Nat) (hσ:(Nat.ble S.obs.length σ.length&&σ.all fun k=>Nat.blt k n)=true):Ev P :=
 .call S.f S.en (fun β=>(S.args.map (SV.den fun k=>β (atS σ S.obs.length n k))).toArray) (needsO σ (atS σ S.obs.length n) S.obs 0) n (S.res.ren (atS σ S.obs.length n)) (S.news.map ratT) fun β w h=>by
  have hc:=S.closed
  simp only [Bool.and_eq_true] at hc
  have hat:∀ k,k<S.obs.length→atS σ S.obs.length n k=σ.getD k 0:=fun k hk=>by
   unfold atS
   rw [lit_eq,show Nat.blt k S.obs.length=true by rw [Nat.blt_eq]; exact hk,cond_true]
  have hat2:∀ k,¬ k<S.obs.length→atS σ S.obs.length n k=n+(k-S.obs.length):=fun k hk=>by
   unfold atS
   rw [lit_eq,show Nat.blt k S.obs.length=false by rw [Bool.eq_false_iff,ne_eq,Nat.blt_eq]; exact hk,cond_false]
  rw [Bool.and_eq_true,Nat.ble_eq] at hσ
  have hsn:∀ k,k<S.obs.length→σ.getD k 0<n:=fun k hk=>by
   rw [List.getD_eq_getElem?_getD]
   cases hx:σ[k]? with
   | none=>rw [List.getElem?_eq_none_iff] at hx; omega
   | some y=>have:=List.all_eq_true.1 hσ.2 y (List.mem_of_getElem? hx); rw [Nat.blt_eq] at this; exact this
  have hq:∀ k,Nat.blt k S.obs.length=true→β (atS σ S.obs.length n k)=β (σ.getD k 0):=fun k hk=>by rw [hat k (by simpa [Nat.blt_eq] using hk)]
  have hargs:S.args.map (SV.den fun k=>β (atS σ S.obs.length n k))=S.args.map (SV.den fun k=>β (σ.getD k 0)):=List.map_congr_left fun x hx=>SV.den_congr hq _ (List.all_eq_true.1 hc.1.1 x hx)
  rw [hargs]
  refine (S.ok (fun k=>β (σ.getD k 0)) w fun k o hk=>?_).mono ?_
  · have ho:=List.all_eq_true.1 hc.1.2 o (List.mem_of_getElem? hk)
    rw [Bool.and_eq_true] at ho
    have hlt:k<S.obs.length:=(List.getElem?_eq_some_iff.1 hk).1
    have h1:(o.ren (atS σ S.obs.length n)).holds β w (β (σ.getD k 0)):=by
     have:=h _ (needsO_at (i:=0) hk)
     rwa [Nat.zero_add] at this
    exact Ob.holds_cg hq ho.2 ho.1 (Ob.holds_ren ho.2 h1)
  · rintro e w' ⟨xs,h1,rfl,h3,h4⟩
    refine ⟨xs,fun x hx c hc2=>?_,?_,h3,h4⟩
    · rcases h1 x hx c hc2 with h5 | ⟨i,o,h5,h6,h7⟩
      · exact .inl h5
      · refine .inr ⟨_,needsO_at (i:=0) h5,?_,?_⟩
        · cases o<;>first | exact h6 | cases h6
        · rw [Nat.zero_add]; exact h7
    · rw [SV.den_ren]
      congr 1
      refine SV.den_congr (fun k hk=>?_) _ hc.2
      have hlen:=(newHold_get h3).1
      rw [List.length_map] at hlen
      rw [Nat.blt_eq] at hk
      by_cases hk2:k<S.obs.length
      · rw [hat k hk2,extE_out (β:=β) (n:=n) (k:=σ.getD k 0) (xs:=xs) (by have:=hsn k hk2; omega),extE_out (n:=S.obs.length) (k:=k) (xs:=xs) (by omega)]
      · rw [hat2 k hk2]
        have h5:k-S.obs.length<xs.length:=by omega
        rw [extE_in (List.getElem?_eq_getElem h5)]
        have:=extE_in (β:=fun k=>β (σ.getD k 0)) (n:=S.obs.length) (List.getElem?_eq_getElem h5)
        rw [show S.obs.length+(k-S.obs.length)=k by omega] at this
        exact this
def OSpec.e {P:Program} (S:OSpec P):Ev P:=.dyn (fun o _ _=>isCallB o) fun _ xs ob =>
 lits (sigO S xs ob) fun σ=>lit ob.length fun n=>if h:(Nat.ble S.obs.length σ.length&&σ.all fun k=>Nat.blt k n)=true then S.ev σ n h else .eqv 0 undef undef rfl
abbrev gnS (a:Gn):SV:=.one (.a (rL a.x++rL a.y))
theorem _root_.Go.Proofs.YtbepimnlleilfaaGreat.FitG.gsz {z:GQ} (h:FitG z):GSz 1024 z:=⟨h.1.sz,h.2.sz⟩
noncomputable abbrev fA (x:Rat):List Lf:=[.b (.v (.bool (ansB x))),.b (.v (.string (ansS x))),.b (.v (.bool false)),.b (.v (.string (ansD x)))]
abbrev KC:Nat:=1000000
structure RQ where
 a:Rat
 b:GQ
 c:Rat
structure RSz (k:Nat) (r:RQ):Prop where
 a:Sz k r.a
 b:GSz k r.b
 c:Sz k r.c
def rpow (r:RQ):Rat:=gnorm r.b-r.a*r.c
def rbyQ (i j:Bool) (r:RQ):Rat:=bif i then (bif j then r.b.im else r.b.re) else r.a
def rnm (r:RQ) (x:Rat):RQ:=⟨r.a*x⁻¹,gscale r.b x⁻¹,r.c*x⁻¹⟩
def FitC (m:RQ):Prop:=Fit m.a∧FitG m.b∧Fit m.c
section
variable {r:RQ} (h:RSz KC r) {i j:Bool} (hi:decide (r.a=0)=i) (hj:decide (r.b.re=0)=j) (h0:rbyQ i j r≠0)
include h hi hj h0
end
def rby (r:RQ):Rat:=rbyQ (decide (r.a=0)) (decide (r.b.re=0)) r
def rone (r:RQ):RQ:=rnm r (rby r)
inductive Fn where
 | ok (x:Rat) (h:Fit x)
 | no (f:Fr) (h:f.a.B=false)
def Fn.fr:Fn→Fr
 | .ok x h=>frX x h
 | .no f _=>f
def Fn.r (a:Fn):R4:=a.fr.r
def Fn.B:Fn→Bool
 | .ok ..=>true
 | .no ..=>false
structure MayC (r:RQ):Prop where
 fit:FitC r
 pow:decide ((rpow r).num.sign≤0)=false
 one:rone r=r
def sR4MayG (a:Gn) {r:Bool} (h:a.B=r):Spec Tryz.prog :=
 (sR4May a.gp.a.a a.gp.b.a).as [gnS a] (tB' r) (by
  show [SV.one (.a (a.gp.a.a.C++a.gp.b.a.C))]=[SV.one (.a (rL a.gp.a.r++rL a.gp.b.r))]
  rw [show a.gp.a.a.C=rL a.gp.a.r from a.gp.a.e,show a.gp.b.a.C=rL a.gp.b.r from a.gp.b.e]) (congrArg tB' (a.gpB.trans h))
structure CkNo (l:List Lf):Prop where
 cl:l.all (Lf.of fun _=>false)=true
 prog:∀ (β:Env) (w:World),Calls Tryz.prog 68 (([.one (.a l)]:List SV).map (SV.den β)).toArray w fun e w'=>e=.returned (.int .i64 2)∧Below w.heap.size w w'
 ref:∀ (β:Env) (w:World),Calls Tryz.prog 67 (([.one (.a l)]:List SV).map (SV.den β)).toArray w fun e w'=>e=.returned (.int .i64 2)∧Below w.heap.size w w'
inductive Cp where
 | ok (r:RQ) (h:MayC r)
 | no (a b b' c:R4) (h:CkNo (rL a++(rL b++rL b')++rL c))
def Cp.B:Cp→Bool
 | .ok ..=>true
 | .no ..=>false
def Cp.a:Cp→R4
 | .ok r _=>fR r.a
 | .no a _ _ _ _=>a
def Ob.renL (ρ:Nat→Nat):Ob→Ob
 | .box cs t=>.box (cs.map (Lf.ren ρ)) t
 | .row cs t n sz=>.row (cs.map (Lf.ren ρ)) t n sz
 | x=>x
theorem Ob.renL_holds {β:Env} {w:World} {g:Pl} {ρ:Nat→Nat}:∀ {o:Ob},(o.renL ρ).holds β w g↔o.holds (fun k=>β (ρ k)) w g
 | .box cs t=>by
  have h:(cs.map (Lf.ren ρ)).map (Lf.den β)=cs.map (Lf.den fun k=>β (ρ k)):=by
   rw [List.map_map]
   exact List.map_congr_left fun x _=>Lf.den_ren β ρ x
  show (g.one∧w.heap[g.b]?=some (.cells ((cs.map (Lf.ren ρ)).map (Lf.den β)).toArray t (0,0)))↔_
  rw [h]
  exact Iff.rfl
 | .row cs t n sz=>by
  have h:(cs.map (Lf.ren ρ)).map (Lf.den β)=cs.map (Lf.den fun k=>β (ρ k)):=by
   rw [List.map_map]
   exact List.map_congr_left fun x _=>Lf.den_ren β ρ x
  show (g.one∧∃ cur,w.heap[g.b]?=some (.cells cur t (0,0))∧(cs.map (Lf.ren ρ)).length=n*sz∧n≤g.c 0∧g.c 0≤maxLen∧cur.size=g.c 0*sz∧cur.toList.take (n*sz)=(cs.map (Lf.ren ρ)).map (Lf.den β))↔_
  rw [h,List.length_map]
  exact Iff.rfl
 | .th _=>Iff.rfl
 | .al _ _=>Iff.rfl
 | .pl _=>Iff.rfl
 | .ow _ _=>Iff.rfl
 | .dead=>Iff.rfl
structure MSpec (P:Program) where
 f:FuncId
 en:Enters P f
 args:List SV
 obs:List Thing
 a:Ob
 b:Ob
 res:SV
 news:List Thing
 ok:∀ β w,(∀ (k:Nat) (t:Thing),obs[k]?=some t→t.D w (β k))→a.holds β w (β obs.length)→Calls P f (args.map (SV.den β)).toArray w fun e w'=>∃ xs:List Pl,freshS β w obs.length xs∧e=.returned (res.den (extE β (obs.length+1) xs))∧newHold w' news xs∧b.holds (extE β (obs.length+1) xs) w' (β obs.length)∧TouchL w w' [(β obs.length).b]
 closed:(args.all (SV.of fun k=>Nat.blt k (obs.length+1))&&(a.of (fun k=>Nat.blt k (obs.length+1))&&(b.of (fun k=>Nat.blt k (obs.length+1+news.length))&&res.of fun k=>Nat.blt k (obs.length+1+news.length))))=true
def atM (σ:List Nat) (m n k:Nat):Nat:=lit (bif Nat.blt k (m+1) then σ.getD k 0 else n+(k-(m+1))) fun j=>j
def needsM (σ:List Nat):List Thing→Nat→List (Nat × Ob)
 | [],_=>[]
 | t::r,k=>lit (σ.getD k 0) fun j=>(j,t.ob)::needsM σ r (k+1)
theorem needsM_at {σ:List Nat}:∀ {l:List Thing} {i k:Nat} {t:Thing},l[k]?=some t→(σ.getD (i+k) 0,t.ob)∈needsM σ l i
 | x::r,i,0,t,h=>by
  simp only [List.getElem?_cons_zero] at h
  obtain rfl:=Option.some.inj h
  unfold needsM
  rw [lit_eq]
  exact List.mem_cons_self ..
 | x::r,i,k+1,t,h=>by
  have:=needsM_at (σ:=σ) (l:=r) (i:=i+1) (k:=k) (t:=t) (by simpa using h)
  unfold needsM
  rw [lit_eq,show i+(k+1)=i+1+k by omega]
  exact List.mem_cons_of_mem _ this
theorem Ob.holds_cgL {q:Nat→Bool} {β β':Env} {w:World} {g:Pl} (hq:∀ k,q k=true→β k=β' k) {o:Ob} (h:o.of q=true) (k:o.holds β w g):o.holds β' w g:=Ob.holds_congr hq o h k
def MSpec.ev {P:Program} (S:MSpec P) (σ:List Nat) (n:Nat) (hσ:(Nat.ble (S.obs.length+1) σ.length&&σ.all fun k=>Nat.blt k n)=true):Ev P :=
 .mut S.f S.en (fun β=>(S.args.map (SV.den fun k=>β (atM σ S.obs.length n k))).toArray) (needsM σ S.obs 0) [⟨lit (σ.getD S.obs.length 0) fun j=>j,S.a.renL (atM σ S.obs.length n),S.b.renL (atM σ S.obs.length n)⟩] n (S.res.ren (atM σ S.obs.length n)) S.news fun β w h hm=>by
  have hc:=S.closed
  simp only [Bool.and_eq_true] at hc
  obtain ⟨hc1,hc2,hc3,hc4⟩:=hc
  have hat:∀ k,k<S.obs.length+1→atM σ S.obs.length n k=σ.getD k 0:=fun k hk=>by
   unfold atM
   rw [lit_eq,show Nat.blt k (S.obs.length+1)=true by rw [Nat.blt_eq]; exact hk,cond_true]
  have hat2:∀ k,¬ k<S.obs.length+1→atM σ S.obs.length n k=n+(k-(S.obs.length+1)):=fun k hk=>by
   unfold atM
   rw [lit_eq,show Nat.blt k (S.obs.length+1)=false by rw [Bool.eq_false_iff,ne_eq,Nat.blt_eq]; exact hk,cond_false]
  rw [Bool.and_eq_true,Nat.ble_eq] at hσ
  have hsn:∀ k,k<S.obs.length+1→σ.getD k 0<n:=fun k hk=>by
   rw [List.getD_eq_getElem?_getD]
   cases hx:σ[k]? with
   | none=>rw [List.getElem?_eq_none_iff] at hx; omega
   | some y=>have:=List.all_eq_true.1 hσ.2 y (List.mem_of_getElem? hx); rw [Nat.blt_eq] at this; exact this
  have h1:=hm _ (List.mem_singleton.2 rfl)
  dsimp only at h1
  rw [lit_eq] at h1
  have hγ:atM σ S.obs.length n S.obs.length=σ.getD S.obs.length 0:=hat _ (by omega)
  refine (S.ok (fun k=>β (atM σ S.obs.length n k)) w (fun k t hk=>?_) ?_).mono ?_
  · have hlt:k<S.obs.length:=(List.getElem?_eq_some_iff.1 hk).1
    have:=h _ (needsM_at (i:=0) hk)
    rw [Nat.zero_add] at this
    show t.D w (β (atM σ S.obs.length n k))
    rw [hat k (by omega)]
    exact this
  · show S.a.holds (fun k=>β (atM σ S.obs.length n k)) w (β (atM σ S.obs.length n S.obs.length))
    rw [hγ]
    exact Ob.renL_holds.1 h1
  · rintro e w' ⟨xs,k1,rfl,k3,k4,k5⟩
    replace k4:S.b.holds (extE (fun k=>β (atM σ S.obs.length n k)) (S.obs.length+1) xs) w' (β (atM σ S.obs.length n S.obs.length)):=k4
    replace k5:TouchL w w' [(β (atM σ S.obs.length n S.obs.length)).b]:=k5
    rw [hγ] at k4 k5
    have hlen:=(newHold_get k3).1
    have hall:∀ k,Nat.blt k (S.obs.length+1+S.news.length)=true→extE (fun k=>β (atM σ S.obs.length n k)) (S.obs.length+1) xs k=extE β n xs (atM σ S.obs.length n k):=fun k hk=>by
     rw [Nat.blt_eq] at hk
     by_cases hk2:k<S.obs.length+1
     · have:=hsn k hk2
       rw [hat k hk2,extE_out (β:=β) (n:=n) (k:=σ.getD k 0) (xs:=xs) (by omega),extE_out (n:=S.obs.length+1) (k:=k) (xs:=xs) (by omega),hat k hk2]
     · rw [hat2 k hk2]
       have h5:k-(S.obs.length+1)<xs.length:=by omega
       rw [extE_in (List.getElem?_eq_getElem h5)]
       have:=extE_in (β:=fun k=>β (atM σ S.obs.length n k)) (n:=S.obs.length+1) (List.getElem?_eq_getElem h5)
       rw [show S.obs.length+1+(k-(S.obs.length+1))=k by omega] at this
       exact this
    refine ⟨xs,fun x hx c hc5=>?_,?_,k3,fun m hm2=>?_,?_⟩
    · rcases k1 x hx c hc5 with h5 | ⟨i,h5,h6⟩
      · exact .inl h5
      · refine .inr ⟨_,needsM_at (σ:=σ) (i:=0) (List.getElem?_eq_getElem h5),rfl,?_⟩
        rw [Nat.zero_add]
        have h7:(β (atM σ S.obs.length n i)).F c:=h6
        rw [hat i (by omega)] at h7
        exact h7
    · rw [SV.den_ren]
      congr 1
      exact SV.den_congr hall _ hc4
    · obtain rfl:=List.mem_singleton.1 hm2
      dsimp only
      rw [lit_eq]
      exact Ob.renL_holds.2 (Ob.holds_cgL hall hc3 k4)
    · rw [List.map_cons,List.map_nil]
      dsimp only
      rw [lit_eq]
      exact k5
def mtLay (o c:Ob):List (Nat × Nat):=match o,c with
 | .box xs _,.box ys _=>mtLs xs ys
 | .row xs _ _ _,.row ys _ _ _=>mtLs xs ys
 | _,_=>[]
def sigR {P:Program} (S:MSpec P) (xs:List SV) (ob:List Ob):List Nat :=
 sigL (mtVs S.args xs++(match ob[sigM (mtVs S.args xs) S.obs.length]? with | some c=>mtLay S.a c | none=>[])) 0 (S.obs.length+1)
def MSpec.e {P:Program} (S:MSpec P):Ev P:=.dyn (fun o _ _=>isCallB o) fun _ xs ob =>
 lits (sigR S xs ob) fun σ=>lit ob.length fun n=>if h:(Nat.ble (S.obs.length+1) σ.length&&σ.all fun k=>Nat.blt k n)=true then S.ev σ n h else .eqv 0 undef undef rfl
structure CRow (P:Program) where
 f:FuncId
 en:Enters P f
 args:List SV
 cs:List Lf
 t:TypeId
 row:Ob
 res:SV
 news:List Thing
 ok:∀ β w,(Ob.box cs t).holds β w (β 0)→Calls P f (args.map (SV.den β)).toArray w fun e w'=>∃ (g:Pl) (xs:List Pl),(w.heap.size≤g.b∧(∀ x∈xs,∀ c,x.F c→w.heap.size≤c)∧∀ x∈xs,¬ x.F g.b)∧e=.returned (res.den (extE β 1 (g::xs)))∧row.holds (extE β 1 (g::xs)) w' g∧newHold w' news xs∧Below w.heap.size w w'
 cl:(cs.all (Lf.of fun _=>false)&&(args.all (SV.of fun k=>Nat.beq k 0)&&(row.of (fun k=>Nat.ble 1 k&&Nat.blt k (2+news.length))&&res.of fun k=>Nat.ble 1 k&&Nat.blt k (2+news.length))))=true
def bkOfZ:List SV→Nat
 | []=>0
 | .one (.c (.b (.s k _ _ _)))::_=>k
 | _::r=>bkOfZ r
def CRow.e {P:Program} (S:CRow P):Ev P:=.dyn (fun o _ _=>isCallB o) fun _ xs ob=>lit (bkOfZ xs) fun i=>lit ob.length fun n =>
 .own S.f S.en (fun β=>(S.args.map (SV.den fun _=>β i)).toArray) [(i,.box S.cs S.t)] n (S.row.renL fun k=>n+(k-1)) (S.res.ren fun k=>n+(k-1)) S.news (fun β w h=>by
  have hc:=S.cl
  simp only [Bool.and_eq_true] at hc
  obtain ⟨c1,c2,c3,c4⟩:=hc
  have h1:(β i).one∧w.heap[(β i).b]?=some (.cells (S.cs.map (Lf.den β)).toArray S.t (0,0)):=h _ (List.mem_singleton.2 rfl)
  refine (S.ok (fun _=>β i) w ?_).mono ?_
  · show (β i).one∧w.heap[(β i).b]?=some (.cells (S.cs.map (Lf.den fun _=>β i)).toArray S.t (0,0))
    rw [show S.cs.map (Lf.den fun _=>β i)=S.cs.map (Lf.den β) from List.map_congr_left fun x hx=>Lf.den_congr (q:=fun _=>false) (fun k hk=>by cases hk) x (List.all_eq_true.1 c1 x hx)]
    exact h1
  · rintro e w' ⟨g,xs,⟨k1,k2,k3⟩,rfl,k5,k6,k7⟩
    have hlen:=(newHold_get k6).1
    have hall:∀ k,(Nat.ble 1 k&&Nat.blt k (2+S.news.length))=true→extE (fun _=>β i) 1 (g::xs) k=extE β n (g::xs) (n+(k-1)):=fun k hk=>by
     rw [Bool.and_eq_true,Nat.ble_eq,Nat.blt_eq] at hk
     have h5:k-1<(g::xs).length:=by rw [List.length_cons]; omega
     rw [extE_in (List.getElem?_eq_getElem h5)]
     have:=extE_in (β:=fun _=>β i) (n:=1) (List.getElem?_eq_getElem h5)
     rw [show 1+(k-1)=k by omega] at this
     exact this
    refine ⟨g,xs,⟨k1,fun x hx c hc=>.inl (k2 x hx c hc),k3⟩,?_,Ob.renL_holds.2 (Ob.holds_cgL hall c3 k5),k6,k7⟩
    rw [SV.den_ren]
    congr 1
    exact SV.den_congr hall _ c4)
structure RSpec (P:Program) where
 f:FuncId
 en:Enters P f
 args:List SV
 src:Ob
 res:SV
 ok:∀ β w,src.holds β w (β 0)→Calls P f (args.map (SV.den β)).toArray w fun e w'=>e=.returned (res.den β)∧Below w.heap.size w w'
 cl:(src.of (fun _=>false)&&(args.all (SV.of fun k=>Nat.beq k 0)&&res.of fun k=>Nat.beq k 0))=true
def bkOfR:List SV→Nat
 | []=>0
 | .one (.c (.b (.r k _)))::_=>k
 | _::r=>bkOfR r
def RSpec.e {P:Program} (S:RSpec P):Ev P:=.dyn (fun o _ _=>isCallB o) fun _ xs ob=>lit (bkOfR xs) fun i=>lit ob.length fun n =>
 .call S.f S.en (fun β=>(S.args.map (SV.den fun _=>β i)).toArray) [(i,S.src)] n (S.res.ren fun _=>i) [] (fun β w h=>by
  have hc:=S.cl
  simp only [Bool.and_eq_true] at hc
  obtain ⟨c1,c2,c3⟩:=hc
  have h1:S.src.holds β w (β i):=h _ (List.mem_singleton.2 rfl)
  refine (S.ok (fun _=>β i) w (Ob.holds_congr (q:=fun _=>false) (fun k hk=>by cases hk) _ c1 h1)).mono fun e w' ⟨k1,k2⟩=>⟨[],(fun _ h=>by cases h),?_,trivial,k2⟩
  rw [k1,extE_nil,SV.den_ren])
structure RRow (P:Program) where
 f:FuncId
 en:Enters P f
 args:List SV
 src:Ob
 row:Ob
 res:SV
 ok:∀ β w,src.holds β w (β 0)→Calls P f (args.map (SV.den β)).toArray w fun e w'=>∃ g:Pl,w.heap.size≤g.b∧e=.returned (res.den (fun _=>g))∧row.holds (fun _=>g) w' g∧Below w.heap.size w w'
 cl:(src.of (fun _=>false)&&(row.of (fun _=>false)&&(args.all (SV.of fun k=>Nat.beq k 0)&&res.of fun k=>Nat.beq k 0)))=true
def RRow.e {P:Program} (S:RRow P):Ev P:=.dyn (fun o _ _=>isCallB o) fun _ xs ob=>lit (bkOfR xs) fun i=>lit ob.length fun n =>
 .own S.f S.en (fun β=>(S.args.map (SV.den fun _=>β i)).toArray) [(i,S.src)] n S.row (S.res.ren fun _=>n) [] (fun β w h=>by
  have hc:=S.cl
  simp only [Bool.and_eq_true] at hc
  obtain ⟨c1,c2,c3,c4⟩:=hc
  have h1:S.src.holds β w (β i):=h _ (List.mem_singleton.2 rfl)
  refine (S.ok (fun _=>β i) w (Ob.holds_congr (q:=fun _=>false) (fun k hk=>by cases hk) _ c1 h1)).mono ?_
  rintro e w' ⟨g,k1,rfl,k3,k4⟩
  have hg:extE β n [g] n=g:=extE_in (i:=0) (xs:=[g]) rfl
  refine ⟨g,[],⟨k1,(fun _ h=>by cases h),(fun _ h=>by cases h)⟩,?_,Ob.holds_congr (q:=fun _=>false) (fun k hk=>by cases hk) _ c2 k3,trivial,k4⟩
  rw [SV.den_ren]
  congr 1
  exact SV.den_congr (q:=fun k=>Nat.beq k 0) (fun k _=>hg.symm) _ c4)
noncomputable def rwDesc (T:TypeId):TypeDesc:=(Tryz.prog.underlying T).getD (.slice 0)
theorem rwDesc_u {T:TypeId} (h:((Tryz.prog.underlying T).map fun d=>d.isRow)=some true):Tryz.prog.underlying T=some (rwDesc T)∧(rwDesc T).isRow=true:=by
 unfold rwDesc
 cases h2:Tryz.prog.underlying T with
 | none=>rw [h2] at h; cases h
 | some d =>
  rw [h2] at h
  exact ⟨rfl,Option.some.inj h⟩
noncomputable def faB (T:TypeId) (i off:Nat):Bool:=match Tryz.prog.underlying T with
 | some (.struct fs)=>match fs[i]? with
  | some f=>Nat.beq f.offset off&&match Tryz.prog.info? f.type with
   | some n=>!Nat.beq n.size 0
   | none=>false
  | none=>false
 | _=>false
theorem fa_run {T:TypeId} {i off:Nat} (h:faB T i off=true) (a:Addr) (w:World):(Instr.fieldAt T (.pointer (some a)) i).run Tryz.prog w=.ok (.pointer (some (a.add off))) w:=by
 unfold faB at h
 split at h
 · rename_i fs hu
   split at h
   · rename_i f hf
     rw [Bool.and_eq_true] at h
     obtain ⟨h1,h2⟩:=h
     split at h2
     · rename_i inf hi
       have hs:inf.size≠0:=by
        intro e
        rw [e] at h2
        cases h2
       obtain rfl:=Nat.eq_of_beq_eq_true h1
       simp [Instr.fieldAt,run_underlying hu,Instr.sureAddr,fieldPlace,sizeOf,typeInfo,hf,hi,hs]
     · cases h2
   · cases h
 · cases h
theorem rw_part {w:World} {b o k n:Nat} {cs:List Value} (h:w.rangeAt b o cs):w.rangeAt b (o+k) ((cs.drop k).take n):=fun i v hv=>by
 have h1:cs[k+i]?=some v:=by
  rw [List.getElem?_take] at hv
  split at hv
  · rw [List.getElem?_drop] at hv
    exact hv
  · cases hv
 have:=h (k+i) v h1
 rw [Nat.add_assoc]
 exact this
def eFa {T:TypeId} {sz I off n j:Nat} (L:Nat→List Lf) (hf:faB T I off=true) (hj:j<n):Ev Tryz.prog:=.dyn (fun o _ _=>match o.op with
 | .fieldAddr t _ i=>Nat.beq t T&&Nat.beq i I
 | _=>false) fun o xs _=>match o.op with
 | .fieldAddr _ x _=>lit (lsZOf (xs.getD 0 undefS)) fun k=>.rd (o.dst.getD 0) (.fieldAddr T x I) (fun β=>[.pointer ((β k).v (j*sz))]) [(k,(rwT sz n L).ob)] 0 (.one (.c (.b (.z k (j*sz+off))))) [] (fun β w h ρ o ho hx=>by
   have h1:RwD sz n L w (β k):=h _ (List.mem_singleton.2 rfl)
   have h3:ρ x=.pointer ((β k).v (j*sz)):=by simpa [Op.operands] using hx
   rcases h1 with h1 | ⟨h0,b,of,cs,t,fr,h1,h2,h4,h5⟩
   · omega
   refine ⟨[],w,(fun _ h=>by cases h),?_,trivial,Below.refl _ _⟩
   unfold execOp
   rw [ho]
   dsimp only
   have e:((SV.one (.c (.b (.z k (j*sz+off))))).den (extE β 0 []))=.pointer (some ((⟨b,of+j*sz,none⟩:Addr).add off)):=by
    show Value.pointer ((β k).v (j*sz+off))=_
    rw [h1,Addr.add_mid,Nat.add_assoc]
   have h6:=fa_run hf (⟨b,of+j*sz,none⟩:Addr) w
   rw [e,h3,h1]
   simp only [Sem.run_bind,h6,Result.andThen_ok]
   rfl)
 | _=>.cut
def ePt {T:TypeId} {d:TypeDesc} (hu:Tryz.prog.underlying T=some d) (hd:d.isRow=true) (sz off:Nat) {n j:Nat} {L:Nat→List Lf} {cs:List Lf} {m:Nat} (hc:((L j).drop off).take m=cs) (hs:(Tryz.prog.info? T).map (·.size)=some cs.length) (hL:∀ β,cs.map (Lf.den β)=cs.map (Lf.den idE)) (hj:j<n):Ev Tryz.prog:=.dyn (fun o xs _=>match o.op with
 | .load t _=>Nat.beq t T
 | _=>false) fun o xs _=>match o.op with
 | .load _ x=>lit (lsZOf (xs.getD 0 undefS)) fun k=>.rd (o.dst.getD 0) (.load T x) (fun β=>[.pointer ((β k).v (j*sz+off))]) [(k,(rwT sz n L).ob)] 0 (.one (.a cs)) [] (fun β w h ρ o ho hx=>by
   have h1:RwD sz n L w (β k):=h _ (List.mem_singleton.2 rfl)
   have h3:ρ x=.pointer ((β k).v (j*sz+off)):=by simpa [Op.operands] using hx
   rcases h1 with h1 | ⟨h0,b,of,cl,t,fr,h1,h2,h4,h5⟩
   · omega
   refine ⟨[],w,(fun _ h=>by cases h),?_,trivial,Below.refl _ _⟩
   unfold execOp
   rw [ho]
   dsimp only
   rw [h3,h1]
   have h7:w.rangeAt b (of+j*sz+off) (cs.map (Lf.den idE)):=by
    rw [← hc,List.map_take,List.map_drop]
    exact rw_part (h5 j hj)
   have h6:=run_loadAt_mid (P:=Tryz.prog) w b (of+j*sz+off) T (cs.map (Lf.den idE)) d h7 hu hd (by rw [List.length_map]; exact hs)
   have e:((SV.one (.a cs)).den (extE β 0 []))=.agg (cs.map (Lf.den idE)).toArray:=by
    show Value.agg (cs.map (Lf.den (extE β 0 []))).toArray=_
    rw [hL]
   rw [e]
   rw [Nat.add_assoc] at h6
   simp only [Sem.run_bind,h6,Result.andThen_ok]
   rfl)
 | _=>.cut
def eSlG {T:TypeId} (hu:Tryz.prog.underlying T=some (.slice (Tryz.prog.elem T))) {sz:Nat} (hs:(Tryz.prog.info? (Tryz.prog.elem T)).map (·.size)=some sz) {N l n:Nat} (hN:n≤N) (e:TypeId) (L:Nat→List Lf):Ev Tryz.prog:=.dyn (fun o _ _=>match o.op with
 | .slice t _ none (some _) none=>Nat.beq t T
 | _=>false) fun o xs _=>match o.op with
 | .slice _ x none (some y) none=>lit (lsKOf (xs.getD 0 undefS)) fun k=>.rd (o.dst.getD 0) (.slice T x none (some y) none) (fun β=>[.slice ((β k).v 0) l ((β k).c 0),.int .i64 (n:Int)]) [(k,.th (orT sz e N L))] 0 (.one (.c (.b (.y k 0 n)))) [] (fun β w h ρ o ho hx=>by
   have h3:ρ x=.slice ((β k).v 0) l ((β k).c 0)∧ρ y=.int .i64 (n:Int):=by simpa [Op.operands] using hx
   have hd:OrD sz e N L w (β k):=h (k,.th (orT sz e N L)) (List.mem_singleton.2 rfl)
   obtain ⟨cur,_,h1,_⟩:=hd.cells
   refine ⟨[],w,(fun _ h=>by cases h),?_,trivial,Below.refl _ _⟩
   have hz:((sizeOf (Tryz.prog.elem T)).run Tryz.prog w)=.ok sz w:=by
    cases hq:Tryz.prog.info? (Tryz.prog.elem T) with
    | none=>simp [hq] at hs
    | some i =>
     have hs:i.size=sz:=by simpa [hq] using hs
     simp [sizeOf,typeInfo,hq,hs]
   have h6:=run_slice_h (P:=Tryz.prog) (w:=w) T ((β k).v 0) l ((β k).c 0) hu .i64 (n:Int) (by omega) (by omega)
   rw [hz] at h6
   have e:((SV.one (.c (.b (.y k 0 n)))).den (extE β 0 []))=.slice ((β k).v 0) n ((β k).c 0):=rfl
   rw [e]
   unfold execOp
   rw [ho]
   dsimp only
   simp only [Option.map_none,Option.map_some,h3.1,h3.2]
   have h7:(Instr.sliceAt T (.slice ((β k).v 0) l ((β k).c 0)) none (some (.int .i64 (n:Int))) none).run Tryz.prog w=.ok (.slice ((β k).v 0) n ((β k).c 0)) w:=by
    rw [run_sliceAt_slice (P:=Tryz.prog) (w:=w) T _ _ _ _ hu,h6,hd.2.1 0]
    simp [sliced,Addr.add]
   simp only [Sem.run_bind,h7,Result.andThen_ok]
   rfl)
 | _=>.cut
abbrev maM (x0 y0 x1 y1 x2 y2 x3 y3:R4) (t:Bool):List Lf:=rL x0++rL y0++rL x1++rL y1++rL x2++rL y2++rL x3++rL y3++[.b (.v (.bool t))]
theorem mw_sub0 {z w:GQ}:gzero (gsub z w)=true↔z=w:=by
 rw [gzero_iff]
 constructor
 · rintro ⟨h1,h2⟩
   simp only [gsub] at h1 h2
   exact GQ.ext2 (by grind) (by grind)
 · rintro rfl
   simp only [gsub]
   exact ⟨by grind,by grind⟩
abbrev mgL (a b c d:Gn) (t:Bool):List Lf:=rL a.x++rL a.y++rL b.x++rL b.y++rL c.x++rL c.y++rL d.x++rL d.y++[.b (.v (.bool t))]
abbrev mgS (a b c d:Gn) (t:Bool):SV:=.one (.a (mgL a b c d t))
def gB (z w:GQ):Bool:=(fR z.re).eq (fR w.re)&&((fR z.im).eq (fR w.im)&&true)
theorem gB_iff {z w:GQ}:gB z w=true↔z=w:=by
 unfold gB
 simp only [Bool.and_true,Bool.and_eq_true,R4.eq_iff]
 constructor
 · rintro ⟨h1,h2⟩
   exact GQ.ext2 (fR_inj h1) (fR_inj h2)
 · rintro rfl
   exact ⟨rfl,rfl⟩
def gEq (z w:GQ) {r:Bool} (h:gB z w=r):Ev Tryz.prog:=eqEvG (fR z.re) (fR z.im) (fR w.re) (fR w.im) r h
abbrev g1':GQ:=gint 1 0
abbrev g0':GQ:=gint 0 0
def CkV (a b c d:Gn) (t:Bool) (k:Int):Prop:=∀ (β:Env) (w:World),Calls Tryz.prog 29 (([mgS a b c d t]:List SV).map (SV.den β)).toArray w fun e w'=>∃ xs:List Pl,freshS β w 0 xs∧e=.returned ((SV.one (nI' k)).den (extE β 0 xs))∧newHold w' [] xs∧Below w.heap.size w w'
theorem mw_no (β:Env) (w:World):∀ (k:Nat) (t:Thing),([]:List Thing)[k]?=some t→t.D w (β k):=fun k t h=>by simp at h
theorem ck_no {a b c d:Gn} {t:Bool} (h:(a.B&&(b.B&&(c.B&&d.B)))=false):CkV a b c d t 2:=fun β w=>by
 cases h1:a.B with
 | false=>exact spec_auto (args:=[mgS a b c d t]) (obs:=[]) (res:=.one (nI' 2)) (news:=[]) (evs:=[(sR4MayG a h1).e]) (Ns:=[(3,21)]) (m:=800) Tryz.func29 hmA (fun β=>by kernel_rfl) (by kernel_rfl) β w (mw_no β w)
 | true=>cases h2:b.B with
  | false=>exact spec_auto (args:=[mgS a b c d t]) (obs:=[]) (res:=.one (nI' 2)) (news:=[]) (evs:=[(sR4MayG a h1).e,(sR4MayG b h2).e]) (Ns:=[(3,21)]) (m:=800) Tryz.func29 hmA (fun β=>by kernel_rfl) (by kernel_rfl) β w (mw_no β w)
  | true=>cases h3:c.B with
   | false=>exact spec_auto (args:=[mgS a b c d t]) (obs:=[]) (res:=.one (nI' 2)) (news:=[]) (evs:=[(sR4MayG a h1).e,(sR4MayG b h2).e,(sR4MayG c h3).e]) (Ns:=[(3,21)]) (m:=800) Tryz.func29 hmA (fun β=>by kernel_rfl) (by kernel_rfl) β w (mw_no β w)
   | true=>cases h4:d.B with
    | false=>exact spec_auto (args:=[mgS a b c d t]) (obs:=[]) (res:=.one (nI' 2)) (news:=[]) (evs:=[(sR4MayG a h1).e,(sR4MayG b h2).e,(sR4MayG c h3).e,(sR4MayG d h4).e]) (Ns:=[(3,21)]) (m:=800) Tryz.func29 hmA (fun β=>by kernel_rfl) (by kernel_rfl) β w (mw_no β w)
    | true=>rw [h1,h2,h3,h4] at h; cases h
section
variable (q:MQ) (h:FitM q)
abbrev ckGs (q:MQ) (h:FitM q) (k:Int):Prop:=CkV (.ok q.a h.1) (.ok q.b h.2.1) (.ok q.c h.2.2.1) (.ok q.d h.2.2.2) q.t k
noncomputable def ckM:List (Ev Tryz.prog):=[(sR4MayG (.ok q.a h.1) rfl).e,(sR4MayG (.ok q.b h.2.1) rfl).e,(sR4MayG (.ok q.c h.2.2.1) rfl).e,(sR4MayG (.ok q.d h.2.2.2) rfl).e,sR8unit.e]
theorem ckq_sz {q:MQ} (h:FitM q):MSz KD q:=⟨h.1.gsz.mono (by decide),h.2.1.gsz.mono (by decide),h.2.2.1.gsz.mono (by decide),h.2.2.2.gsz.mono (by decide)⟩
noncomputable def ckZ {b:Bool} (hd:gzero (mdet q)=b):List (Ev Tryz.prog):=[(sR8Det (ckq_sz h)).e,(sR4Zero (mdet q) hd).e]
theorem ck_q:(MayQ q∧ckGs q h 0)∨ckGs q h 2:=by
 cases r1:gB q.c g1' with
 | true =>
  cases hd:gzero (mdet q) with
  | false =>
   refine .inl ⟨⟨h,hd,.inl (mw_sub0.2 (gB_iff.1 r1))⟩,fun β w=>?_⟩
   exact spec_auto (evs:=ckM q h++[gEq q.c g1' r1]++ckZ q h hd) (Ns:=[(3,21)]) (m:=800) Tryz.func29 hmA (fun β=>by kernel_rfl) (by kernel_rfl) β w (mw_no β w)
  | true =>
   refine .inr fun β w=>?_
   exact spec_auto (evs:=ckM q h++[gEq q.c g1' r1]++ckZ q h hd) (Ns:=[(3,21)]) (m:=800) Tryz.func29 hmA (fun β=>by kernel_rfl) (by kernel_rfl) β w (mw_no β w)
 | false =>
  cases r2:gB q.c g0' with
  | false =>
   refine .inr fun β w=>?_
   exact spec_auto (evs:=ckM q h++[gEq q.c g1' r1,sR8zero.e,gEq q.c g0' r2]) (Ns:=[(3,21)]) (m:=800) Tryz.func29 hmA (fun β=>by kernel_rfl) (by kernel_rfl) β w (mw_no β w)
  | true =>
   cases r3:gB q.d g1' with
   | false =>
    refine .inr fun β w=>?_
    exact spec_auto (evs:=ckM q h++[gEq q.c g1' r1,sR8zero.e,gEq q.c g0' r2,sR8unit.e,gEq q.d g1' r3]) (Ns:=[(3,21)]) (m:=800) Tryz.func29 hmA (fun β=>by kernel_rfl) (by kernel_rfl) β w (mw_no β w)
   | true =>
    cases hd:gzero (mdet q) with
    | false =>
     have z0:gzero q.c=true:=by rw [gB_iff.1 r2]; rfl
     refine .inl ⟨⟨h,hd,.inr ⟨z0,mw_sub0.2 (gB_iff.1 r3)⟩⟩,fun β w=>?_⟩
     exact spec_auto (evs:=ckM q h++[gEq q.c g1' r1,sR8zero.e,gEq q.c g0' r2,sR8unit.e,gEq q.d g1' r3]++ckZ q h hd) (Ns:=[(3,21)]) (m:=800) Tryz.func29 hmA (fun β=>by kernel_rfl) (by kernel_rfl) β w (mw_no β w)
    | true =>
     refine .inr fun β w=>?_
     exact spec_auto (evs:=ckM q h++[gEq q.c g1' r1,sR8zero.e,gEq q.c g0' r2,sR8unit.e,gEq q.d g1' r3]++ckZ q h hd) (Ns:=[(3,21)]) (m:=800) Tryz.func29 hmA (fun β=>by kernel_rfl) (by kernel_rfl) β w (mw_no β w)
end
theorem ck_may {q:MQ} (h:MayQ q):ckGs q h.1 0:=fun β w=>by
 have hd:=h.2.1
 cases r1:gB q.c g1' with
 | true=>exact spec_auto (evs:=ckM q h.1++[gEq q.c g1' r1]++ckZ q h.1 hd) (Ns:=[(3,21)]) (m:=800) Tryz.func29 hmA (fun β=>by kernel_rfl) (by kernel_rfl) β w (mw_no β w)
 | false =>
  rcases h.2.2 with h1 | ⟨h1,h2⟩
  · rw [gB_iff.2 (mw_sub0.1 h1)] at r1
    cases r1
  · have r2:gB q.c g0'=true:=gB_iff.2 (by
     rw [gz_true] at h1
     rw [h1]
     kernel_rfl)
    have r3:gB q.d g1'=true:=gB_iff.2 (mw_sub0.1 h2)
    exact spec_auto (evs:=ckM q h.1++[gEq q.c g1' r1,sR8zero.e,gEq q.c g0' r2,sR8unit.e,gEq q.d g1' r3]++ckZ q h.1 hd) (Ns:=[(3,21)]) (m:=800) Tryz.func29 hmA (fun β=>by kernel_rfl) (by kernel_rfl) β w (mw_no β w)
def CkMp (m:Mp) (k:Int):Prop:=∀ (β:Env) (w:World),Calls Tryz.prog 29 (([.one (.a m.C)]:List SV).map (SV.den β)).toArray w fun e w'=>∃ xs:List Pl,freshS β w 0 xs∧e=.returned ((SV.one (nI' k)).den (extE β 0 xs))∧newHold w' [] xs∧Below w.heap.size w w'
abbrev r4k (x:R4):Prop:=x.s.size≤maxLen∧x.t.size≤maxLen
theorem tgg_d:((Tryz.prog.underlying 46).map fun d=>d.isRow)=some true:=by kernel_rfl
theorem ma_first {f:Nat→Bool} {n:Nat} (h:∃ i,i<n∧f i=true):∃ i,i<n∧f i=true∧∀ k,k<i→f k=false:=by
 induction n with
 | zero=>obtain ⟨i,hi,_⟩:=h; exact absurd hi (Nat.not_lt_zero i)
 | succ n ih =>
  by_cases h3:∃ i,i<n∧f i=true
  · obtain ⟨i,k1,k2,k3⟩:=ih h3
    exact ⟨i,by omega,k2,k3⟩
  · obtain ⟨i,hi,hf⟩:=h
    have e:i=n:=by
     rcases Nat.lt_succ_iff_lt_or_eq.1 hi with h4 | h4
     · exact absurd ⟨i,h4,hf⟩ h3
     · exact h4
    subst e
    exact ⟨i,hi,hf,fun k hk=>by
     rw [Bool.eq_false_iff]
     intro e
     exact h3 ⟨k,hk,e⟩⟩
abbrev TMs:TypeId:=74
theorem tms_u:Tryz.prog.underlying TMs=some (.slice (Tryz.prog.elem TMs)):=by kernel_rfl
theorem tms_s:(Tryz.prog.info? (Tryz.prog.elem TMs)).map (·.size)=some 33:=by kernel_rfl
theorem mob_d:((Tryz.prog.underlying MOB).map fun d=>d.isRow)=some true:=by kernel_rfl
theorem mo_k (a b c d:Gn) (t:Bool):(∃ q,MayQ q∧mgL a b c d t=mCl q)∨∃ m u,OpenNo m u∧CkMp m 2∧mgL a b c d t=m.C:=by
 obtain ⟨m,hC⟩:∃ m:Mp,m.C=mgL a b c d t:=⟨⟨a.gp.a,a.gp.b,b.gp.a,b.gp.b,c.gp.a,c.gp.b,d.gp.a,d.gp.b,t⟩,rfl⟩
 have two:CkV a b c d t 2→(∃ q,MayQ q∧mgL a b c d t=mCl q)∨∃ m u,OpenNo m u∧CkMp m 2∧mgL a b c d t=m.C:=fun hk=>by
  rcases open_all m with ⟨q,hq,e⟩ | ⟨u,ho⟩
  · exact .inl ⟨q,hq,hC.symm.trans e⟩
  · refine .inr ⟨m,u,ho,fun β w=>?_,hC.symm⟩
    rw [hC]
    exact hk β w
 cases h:(a.B&&(b.B&&(c.B&&d.B))) with
 | false=>exact two (ck_no h)
 | true =>
  cases a with
  | no=>cases h
  | ok za ha=>cases b with
   | no=>cases h
   | ok zb hb=>cases c with
    | no=>cases h
    | ok zc hc=>cases d with
     | no=>cases h
     | ok zd hd =>
      rcases ck_q ⟨za,zb,zc,zd,t⟩ ⟨ha,hb,hc,hd⟩ with ⟨hm,_⟩ | hk
      · exact .inl ⟨_,hm,rfl⟩
      · exact two hk
structure Mo where
 a:Gn
 b:Gn
 c:Gn
 d:Gn
 t:Bool
abbrev moL (p:Mo):List Lf:=mgL p.a p.b p.c p.d p.t
open Classical in
noncomputable def Mo.B (p:Mo):Bool:=decide (∃ q,MayQ q∧moL p=mCl q)
open Classical in
noncomputable def moQ (p:Mo):MQ:=if h:∃ q,MayQ q∧moL p=mCl q then h.choose else mid false
theorem moQ_ok {p:Mo} (h:p.B=true):MayQ (moQ p)∧moL p=mCl (moQ p):=by
 have h2:∃ q,MayQ q∧moL p=mCl q:=by unfold Mo.B at h; exact @of_decide_eq_true _ (Classical.propDecidable _) h
 unfold moQ
 rw [dif_pos h2]
 exact h2.choose_spec
theorem mo_no {p:Mo} (h:p.B=false):∃ m u,OpenNo m u∧CkMp m 2∧moL p=m.C:=by
 have h2:¬ ∃ q,MayQ q∧moL p=mCl q:=by unfold Mo.B at h; exact @of_decide_eq_false _ (Classical.propDecidable _) h
 exact (mo_k p.a p.b p.c p.d p.t).resolve_left h2
theorem mo_of (x0 y0 x1 y1 x2 y2 x3 y3:R4) (t:Bool) (h0:r4k x0) (k0:r4k y0) (h1:r4k x1) (k1:r4k y1) (h2:r4k x2) (k2:r4k y2) (h3:r4k x3) (k3:r4k y3):∃ p:Mo,moL p=maM x0 y0 x1 y1 x2 y2 x3 y3 t:=by
 obtain ⟨a,rfl,rfl⟩:=gn_of x0 y0 h0 k0
 obtain ⟨b,rfl,rfl⟩:=gn_of x1 y1 h1 k1
 obtain ⟨c,rfl,rfl⟩:=gn_of x2 y2 h2 k2
 obtain ⟨d,rfl,rfl⟩:=gn_of x3 y3 h3 k3
 exact ⟨⟨a,b,c,d,t⟩,rfl⟩
abbrev moK (b:Bool):Int:=bif b then 0 else 2
noncomputable def sMoCk (p:Mo) {b:Bool} (hb:p.B=b):Spec Tryz.prog :=
 ⟨44,Tryz.call44,[.one (.a (moL p))],[],.one (nI' (moK b)),[],fun β w hh=>by
  cases b with
  | true =>
   rw [(moQ_ok hb).2]
   exact (sMbChk (moQ_ok hb).1).ok β w hh
  | false =>
   obtain ⟨m,u,ho,_,e⟩:=mo_no hb
   rw [e]
   exact (sMbChkNo ho).ok β w hh,by kernel_rfl⟩
noncomputable def sMoRk (p:Mo) {b:Bool} (hb:p.B=b):Spec Tryz.prog :=
 ⟨29,Tryz.call29,[.one (.a (moL p))],[],.one (nI' (moK b)),[],fun β w hh=>by
  cases b with
  | true =>
   rw [(moQ_ok hb).2]
   exact ck_may (moQ_ok hb).1 β w
  | false =>
   obtain ⟨m,u,_,hk,e⟩:=mo_no hb
   rw [e]
   exact hk β w,by kernel_rfl⟩
noncomputable def sMoC1 (p:Mo) {b:Bool} (hb:p.B=b):Spec Tryz.prog :=
 ⟨165,Tryz.call165,[.one (.a (moL p))],[],tB' (!b),[],fun β w hh=>by
  cases b
  · exact spec_auto (evs:=[(sMoCk p hb).e]) (Ns:=[]) (m:=400) Tryz.func165 hmA (fun β=>by kernel_rfl) (by kernel_rfl) β w hh
  · exact spec_auto (evs:=[(sMoCk p hb).e]) (Ns:=[]) (m:=400) Tryz.func165 hmA (fun β=>by kernel_rfl) (by kernel_rfl) β w hh,by kernel_rfl⟩
abbrev moR (C:Nat→Mo) (j:Nat):List Lf:=moL (C j)
abbrev moT (N:Nat) (C:Nat→Mo):Thing:=rwT 33 N (moR C)
abbrev moS (n:Nat):SV:=.one (.c (.b (.y 0 0 n)))
noncomputable def moIx {n N j:Nat} (C:Nat→Mo) (hj:j<n) (hN:n≤N):Ev Tryz.prog:=eIx tms_u tms_s (moR C) hj hN
noncomputable def moLd {n j:Nat} (C:Nat→Mo) (hj:j<n):Ev Tryz.prog:=eLd (rwDesc_u mob_d).1 (rwDesc_u mob_d).2 33 (L:=moR C) (by kernel_rfl) (fun β=>rfl) hj
noncomputable def moFa {n j:Nat} (C:Nat→Mo) (hj:j<n):Ev Tryz.prog:=eFa (T:=MOB) (sz:=33) (I:=0) (off:=0) (moR C) (by kernel_rfl) hj
noncomputable def moFb {n j:Nat} (C:Nat→Mo) (hj:j<n):Ev Tryz.prog:=eFa (T:=MOB) (sz:=33) (I:=1) (off:=8) (moR C) (by kernel_rfl) hj
noncomputable def moFc {n j:Nat} (C:Nat→Mo) (hj:j<n):Ev Tryz.prog:=eFa (T:=MOB) (sz:=33) (I:=2) (off:=16) (moR C) (by kernel_rfl) hj
noncomputable def moFd {n j:Nat} (C:Nat→Mo) (hj:j<n):Ev Tryz.prog:=eFa (T:=MOB) (sz:=33) (I:=3) (off:=24) (moR C) (by kernel_rfl) hj
noncomputable def moPa {n j:Nat} (C:Nat→Mo) (hj:j<n):Ev Tryz.prog:=ePt (rwDesc_u tgg_d).1 (rwDesc_u tgg_d).2 33 0 (L:=moR C) (cs:=rL (C j).a.x++rL (C j).a.y) (m:=8) rfl (by kernel_rfl) (fun β=>rfl) hj
noncomputable def moPb {n j:Nat} (C:Nat→Mo) (hj:j<n):Ev Tryz.prog:=ePt (rwDesc_u tgg_d).1 (rwDesc_u tgg_d).2 33 8 (L:=moR C) (cs:=rL (C j).b.x++rL (C j).b.y) (m:=8) rfl (by kernel_rfl) (fun β=>rfl) hj
noncomputable def moPc {n j:Nat} (C:Nat→Mo) (hj:j<n):Ev Tryz.prog:=ePt (rwDesc_u tgg_d).1 (rwDesc_u tgg_d).2 33 16 (L:=moR C) (cs:=rL (C j).c.x++rL (C j).c.y) (m:=8) rfl (by kernel_rfl) (fun β=>rfl) hj
noncomputable def moPd {n j:Nat} (C:Nat→Mo) (hj:j<n):Ev Tryz.prog:=ePt (rwDesc_u tgg_d).1 (rwDesc_u tgg_d).2 33 24 (L:=moR C) (cs:=rL (C j).d.x++rL (C j).d.y) (m:=8) rfl (by kernel_rfl) (fun β=>rfl) hj
noncomputable abbrev rfF:Func:=Tryz.f25
abbrev rfNs:List (Nat × Nat):=[(4,22)]
section
variable (n:Nat) (C:Nat→Mo)
noncomputable abbrev rfN:Nat:=sizeS rfF [moS n]
abbrev rfSl (j:Nat):List (Nat × SV):=[(0,moS n),(2,.one (.c (.b (.v (.bool false))))),(3,.one (nI' (j:Int)))]
noncomputable abbrev rfC (j:Nat) (ev:List (Ev Tryz.prog)):Cf Tryz.prog:=mkC Tryz.prog (rfN n) 1 (rfSl n j) [(moT n C).ob,.dead] ev
abbrev rfH (r:Bool) (β0:Env) (w:World) (c:Cf Tryz.prog):Prop:=HdOk Tryz.prog 1 (rfN n) w.heap.size w β0 (bodyPost Tryz.prog rfF (Said Tryz.prog rfF 1 (tB' r) [] β0 w)) c (lpAt rfF 0)
variable (β0:Env) (w:World) {j:Nat}
def MoF (p:Mo) (r:Bool):Prop:=Lg4 p.a p.b p.c p.d r
noncomputable def rfE (hj:j<n):List (Ev Tryz.prog):=[.eqv 7 (.bool (decide ((j:Int)<(n:Int)))) (.bool true) (by rw [decide_eq_true (by omega)]),moIx C hj (Nat.le_refl n),moFa C hj,moPa C hj,moIx C hj (Nat.le_refl n),moFb C hj,moPb C hj,moIx C hj (Nat.le_refl n),moFc C hj,moPc C hj,moIx C hj (Nat.le_refl n),moFd C hj,moPd C hj]
theorem rf_step (hj:j<n) (h:MoF (C j) false) {j2:Int} (hj2:IntKind.i64.wrap ((j:Int)+1)=j2) (e2:j2=((j+1:Nat):Int)) (r:Bool) (k:rfH n r β0 w (rfC n C (j+1) [])) :
  rfH n r β0 w (rfC n C j (rfE n C hj++[(sLong4 46 (C j).a (C j).b (C j).c (C j).d h).e,.eqv 9 (.int .i64 (IntKind.i64.wrap ((j:Int)+1))) (.int .i64 ((j+1:Nat):Int)) (by rw [hj2,e2]),.cut])) :=
 piece_ok (Ns:=rfNs) (m:=800) [] [0,0] hmA (by kernel_rfl) (fun β=>ok_of_maps (by kernel_rfl)) k
theorem rf_yes (hj:j<n) (h:MoF (C j) true):rfH n true β0 w (rfC n C j (rfE n C hj++[(sLong4 46 (C j).a (C j).b (C j).c (C j).d h).e])) :=
 last_ok (Ns:=rfNs) (m:=800) hmA (fun β=>ok_of_maps (by kernel_rfl))
theorem rf_end:rfH n false β0 w (rfC n C n [.eqv 7 (.bool (decide ((n:Int)<(n:Int)))) (.bool false) (by rw [decide_eq_false (by omega)])]) :=
 last_ok (Ns:=rfNs) (m:=400) hmA (fun β=>ok_of_maps (by kernel_rfl))
theorem rf_loopY (hn:n≤maxLen) {i:Nat} (hi:i<n) (h:MoF (C i) true) (h2:∀ k,k<i→MoF (C k) false):∀ (d j:Nat),j+d=i→rfH n true β0 w (rfC n C j [])
 | 0,j,e=>by
  obtain rfl:j=i:=by omega
  exact hd_ev' (rf_yes n C β0 w hi h)
 | d+1,j,e=>hd_ev' (rf_step n C β0 w (by omega) (h2 j (by omega)) (j2:=((j+1:Nat):Int)) (by rw [IntKind.wrap_i64]; simp only [maxLen] at hn; omega) rfl true (rf_loopY hn hi h h2 d (j+1) (by omega)))
theorem rf_loopN (hn:n≤maxLen) (h:∀ i,i<n→MoF (C i) false):∀ (d j:Nat),j+d=n→rfH n false β0 w (rfC n C j [])
 | 0,j,e=>by
  obtain rfl:j=n:=by omega
  exact hd_ev' (rf_end j C β0 w)
 | d+1,j,e=>hd_ev' (rf_step n C β0 w (by omega) (h j (by omega)) (j2:=((j+1:Nat):Int)) (by rw [IntKind.wrap_i64]; simp only [maxLen] at hn; omega) rfl false (rf_loopN hn h d (j+1) (by omega)))
theorem rf_start (r:Bool) (hh:(moT n C).D w (β0 0)) (h:rfH n r β0 w (rfC n C 0 [])):Calls Tryz.prog 25 (([moS n]:List SV).map (SV.den β0)).toArray w (Said Tryz.prog rfF 1 (tB' r) [] β0 w) :=
 sx_cut (P:=Tryz.prog) [moS n] [(moT n C).ob] [.cut] [] rfNs 400 (tB' r) [] Tryz.func25 hmA (u:=1) (sl:=rfSl n 0) (ob:=[(moT n C).ob,.dead]) (σ:=[0,0]) (p':=lpAt rfF 0) (by kernel_rfl) (fun β=>ok_of_maps (by kernel_rfl)) (by kernel_rfl) (by kernel_rfl) β0 w (fun i o ho=>by
  cases i with
  | zero=>simp only [List.getElem?_cons_zero] at ho; obtain rfl:=Option.some.inj ho; exact hh
  | succ i=>simp at ho) h
end
def MoFar (n:Nat) (C:Nat→Mo) (r:Bool):Prop:=∀ (β0:Env) (w:World),(moT n C).D w (β0 0)→Calls Tryz.prog 25 (([moS n]:List SV).map (SV.den β0)).toArray w (Said Tryz.prog rfF 1 (tB' r) [] β0 w)
noncomputable def sMoFar {n:Nat} {C:Nat→Mo} {r:Bool} (h:MoFar n C r):Spec Tryz.prog :=
 ⟨25,Tryz.call25,[moS n],[moT n C],tB' r,[],fun β w hh=>(h β w (hh 0 _ rfl)).mono fun e w' h=>said_0 h fun β' _=>rfl,by kernel_rfl⟩
theorem rowFar_all {n:Nat} (C:Nat→Mo) (hn:n≤maxLen):∃ r,MoFar n C r:=by
 have hW:∀ i,∃ r,MoF (C i) r:=fun i=>Lg4.all _ _ _ _
 obtain ⟨f,hf⟩:∃ f:Nat→Bool,∀ i,MoF (C i) (f i):=⟨fun i=>(hW i).choose,fun i=>(hW i).choose_spec⟩
 by_cases h:∃ i,i<n∧f i=true
 · obtain ⟨i,h1,h2,h3⟩:=ma_first h
   exact ⟨true,fun β0 w hh=>rf_start n C β0 w true hh (rf_loopY n C β0 w hn h1 (by rw [← h2]; exact hf i) (fun k hk=>by rw [← h3 k hk]; exact hf k) i 0 (by omega))⟩
 · exact ⟨false,fun β0 w hh=>rf_start n C β0 w false hh (rf_loopN n C β0 w hn (fun i hi=>by
    have:=hf i
    cases e:f i with
    | true=>exact absurd ⟨i,hi,e⟩ h
    | false=>rw [e] at this; exact this) n 0 (by omega))⟩
noncomputable abbrev riF:Func:=Tryz.f293
abbrev riV:SV:=.one (.c (.f (.func 165) [] []))
abbrev riA (n:Nat):List SV:=[moS n,riV]
section
variable (n N:Nat) (C:Nat→Mo)
noncomputable abbrev riN:Nat:=sizeS riF (riA n)
abbrev riSl (j:Nat):List (Nat × SV):=[(0,moS n),(1,riV),(7,.one (nI' (n:Int))),(8,.one (nI' (j:Int)))]
noncomputable abbrev riC (j:Nat) (ev:List (Ev Tryz.prog)):Cf Tryz.prog:=mkC Tryz.prog (riN n) 1 (riSl n j) [(moT N C).ob,.dead] ev
abbrev riH (r:Int) (β0:Env) (w:World) (c:Cf Tryz.prog):Prop:=HdOk Tryz.prog 1 (riN n) w.heap.size w β0 (bodyPost Tryz.prog riF (Said Tryz.prog riF 1 (.one (nI' r)) [] β0 w)) c (lpAt riF 0)
variable (β0:Env) (w:World) {j:Nat} (hN:n≤N)
noncomputable def riE (hj:j<n):List (Ev Tryz.prog):=[.eqv 9 (.bool (decide ((j:Int)<(n:Int)))) (.bool true) (by rw [decide_eq_true (by omega)]),moIx C hj hN,moLd (n:=N) C (Nat.lt_of_lt_of_le hj hN)]
theorem ri_step (r:Int) (hj:j<n) (h:(C j).B=true) {j2:Int} (hj2:IntKind.i64.wrap ((j:Int)+1)=j2) (e2:j2=((j+1:Nat):Int)) (k:riH n r β0 w (riC n N C (j+1) [])):riH n r β0 w (riC n N C j (riE n N C hN hj++[(sMoC1 (C j) h).e,.eqv 18 (.int .i64 (IntKind.i64.wrap ((j:Int)+1))) (.int .i64 ((j+1:Nat):Int)) (by rw [hj2,e2]),.cut])) :=
 piece_ok (Ns:=[]) (m:=400) [] [0,0] hmA (by kernel_rfl) (fun β=>ok_of_maps (by kernel_rfl)) k
theorem ri_no (hj:j<n) (h:(C j).B=false):riH n (j:Int) β0 w (riC n N C j (riE n N C hN hj++[(sMoC1 (C j) h).e])) :=
 last_ok (Ns:=[]) (m:=400) hmA (fun β=>ok_of_maps (by kernel_rfl))
theorem ri_end:riH n (-1) β0 w (riC n N C n [.eqv 9 (.bool (decide ((n:Int)<(n:Int)))) (.bool false) (by rw [decide_eq_false (by omega)])]) :=
 last_ok (Ns:=[]) (m:=400) hmA (fun β=>ok_of_maps (by kernel_rfl))
include hN in
theorem ri_loop (hn:n≤1048576) (h:∀ i,i<n→(C i).B=true):∀ (d j:Nat),j+d=n→riH n (-1) β0 w (riC n N C j [])
 | 0,j,e=>by
  obtain rfl:j=n:=by omega
  exact hd_ev' (ri_end j N C β0 w)
 | d+1,j,e=>hd_ev' (ri_step n N C β0 w hN _ (by omega) (h j (by omega)) (j2:=((j+1:Nat):Int)) (by rw [IntKind.wrap_i64]; omega) rfl (ri_loop hn h d (j+1) (by omega)))
include hN in
theorem ri_loopN (hn:n≤1048576) {i:Nat} (hi:i<n) (h:(C i).B=false) (h2:∀ k,k<i→(C k).B=true):∀ (d j:Nat),j+d=i→riH n (i:Int) β0 w (riC n N C j [])
 | 0,j,e=>by
  obtain rfl:j=i:=by omega
  exact hd_ev' (ri_no n N C β0 w hN hi h)
 | d+1,j,e=>hd_ev' (ri_step n N C β0 w hN _ (by omega) (h2 j (by omega)) (j2:=((j+1:Nat):Int)) (by rw [IntKind.wrap_i64]; omega) rfl (ri_loopN hn hi h h2 d (j+1) (by omega)))
theorem ri_start (r:Int) (hh:(moT N C).D w (β0 0)) (h:riH n r β0 w (riC n N C 0 [])):Calls Tryz.prog 293 ((riA n).map (SV.den β0)).toArray w (Said Tryz.prog riF 1 (.one (nI' r)) [] β0 w) :=
 sx_cut (P:=Tryz.prog) (riA n) [(moT N C).ob] [.cut] [] [] 400 (.one (nI' r)) [] Tryz.func293 hmA (u:=1) (sl:=riSl n 0) (ob:=[(moT N C).ob,.dead]) (σ:=[0,0]) (p':=lpAt riF 0) (by kernel_rfl) (fun β=>ok_of_maps (by kernel_rfl)) (by kernel_rfl) (by kernel_rfl) β0 w (fun i o ho=>by
  cases i with
  | zero=>simp only [List.getElem?_cons_zero] at ho; obtain rfl:=Option.some.inj ho; exact hh
  | succ i=>simp at ho) h
end
noncomputable def sMoI {n N:Nat} (C:Nat→Mo) (hN:n≤N) (hn:n≤1048576) (h:∀ i,i<n→(C i).B=true):Spec Tryz.prog :=
 ⟨293,Tryz.call293,riA n,[moT N C],.one (nI' (-1)),[],fun β w hh=>(ri_start n N C β w _ (hh 0 _ rfl) (ri_loop n N C β w hN hn h n 0 (by omega))).mono fun e w' h=>said_0 h fun β' _=>rfl,by kernel_rfl⟩
noncomputable def sMoINo {n N:Nat} (C:Nat→Mo) (hN:n≤N) (hn:n≤1048576) {i:Nat} (hi:i<n) (h:(C i).B=false) (h2:∀ k,k<i→(C k).B=true):Spec Tryz.prog :=
 ⟨293,Tryz.call293,riA n,[moT N C],.one (nI' (i:Int)),[],fun β w hh=>(ri_start n N C β w _ (hh 0 _ rfl) (ri_loopN n N C β w hN hn hi h h2 i 0 (by omega))).mono fun e w' h=>said_0 h fun β' _=>rfl,by kernel_rfl⟩
noncomputable def sMoHas {n N:Nat} (C:Nat→Mo) (hN:n≤N) (hn:n≤1048576) (h:∀ i,i<n→(C i).B=true):Spec Tryz.prog :=
 Spec.auto Tryz.call164 (riA n) [moT N C] (tB' false) [] [(sMoI C hN hn h).e] [] 400 Tryz.func164 hmA (by kernel_rfl) (fun β=>by kernel_rfl)
noncomputable def sMoHasNo {n N:Nat} (C:Nat→Mo) (hN:n≤N) (hn:n≤1048576) {i:Nat} (hi:i<n) (h:(C i).B=false) (h2:∀ k,k<i→(C k).B=true):Spec Tryz.prog :=
 Spec.auto Tryz.call164 (riA n) [moT N C] (tB' true) [] [(sMoINo C hN hn hi h h2).e,.eqv 8 (.bool (decide ((0:Int)≤(i:Int)))) (.bool true) (by rw [decide_eq_true (by omega)])] [] 400 Tryz.func164 hmA (by kernel_rfl) (fun β=>by kernel_rfl)
end Go.Proofs.YtbepimnlleilfaaGreat.Y
end
section
namespace Go.Proofs.YtbepimnlleilfaaGreat.Y
open Go Go.RowKit
structure RgP where
 g:Operand
 ps:Array Tmp
 x:Code
 y:Code
 ks:List Kf
def rangesOf:Nat→Code→List Kf→List RgP
 | 0,_,_=>[]
 | m+1,c,ks=>match c with
  | .seq a b=>rangesOf m a (.sq b::ks)++rangesOf m b ks
  | .cond _ a b=>rangesOf m a ks++rangesOf m b ks
  | .block id c=>rangesOf m c (.bl id::ks)
  | .rangeFunc g ps x y=>[⟨g,ps,x,y,ks⟩]
  | _=>[]
def rgAt (fn:Func) (i:Nat):RgP:=match fn.body with
 | some c=>(rangesOf 200 c []).getD i ⟨.tmp 0,#[],.skip,.skip,[]⟩
 | none=>⟨.tmp 0,#[],.skip,.skip,[]⟩
def startX (P:Program) (fn:Func) (args:List SV) (obs:List Ob) (evs:List (Ev P)) (Ns:List (Nat × Nat)) (m:Nat):Option (StopX P):=match fn.body with
 | some c=>runI P obs.length (sizeS fn args) Ns m (some c) [] ⟨startS args 0,fun k=>Nat.blt k obs.length,obs,evs,[]⟩
 | none=>none
def StopX.pos {P:Program}:StopX P→Option RgP
 | .range g ps x y ks _=>some ⟨g,ps,x,y,ks⟩
 | _=>none
def wkE (P:Program) (m0 n:Nat) (f:Cf P) (u:Nat) (sl:List (Nat × SV)) (ob:List Ob) (σ:List Nat) (β:Env):Eqs :=
 (bif wkB m0 u f.ob ob σ&&Nat.beq f.ev.length 0&&sl.all (fun p=>Nat.blt p.1 n) then [] else Eqs.no)++(wkObs β f.ob σ ob 0++(wkSl β u ob.length σ f.sl (mkC P n u sl ob []).sl n++eqsOf β f.cs))
def fixB (L u:Nat) (σ:List Nat):Bool:=(List.range L).all fun i=>Nat.beq i u||Nat.beq (σ.getD i 0) i
def startXE (P:Program) (m0 n:Nat) (s:Option (StopX P)) (u:Nat) (sl:List (Nat × SV)) (ob:List Ob) (σ:List Nat) (β:Env):Eqs:=match s with
 | some (.range _ _ _ _ _ f)=>wkE P m0 n f u sl ob σ β
 | _=>Eqs.no
def roundE (P:Program) (m0 n:Nat) (Ns:List (Nat × Nat)) (m:Nat) (rg:RgP) (v:List SV) (C:Cf P) (L u:Nat) (sl:List (Nat × SV)) (ob:List Ob) (σ:List Nat) (β:Env):Eqs :=
 match roundS P m0 n Ns m rg.ps rg.x rg.y C.sl v C with
 | some (false,f)=>(bif fixB L u σ then [] else Eqs.no)++wkE P m0 n f u sl ob σ β
 | _=>Eqs.no
def roundR (P:Program) (fn:Func) (m0 n:Nat) (Ns:List (Nat × Nat)) (m:Nat) (rg:RgP) (v:List SV) (C:Cf P) (res:SV) (outs:List (Nat × Ob)) (β:Env):Eqs :=
 match roundS P m0 n Ns m rg.ps rg.x rg.y C.sl v C with
 | some (true,f)=>(bif f.ob.all obClB then [] else Eqs.no)++fin1 P fn m0 n res outs f β
 | _=>Eqs.no
def doneE (P:Program) (fn:Func) (m0 n:Nat) (Ns:List (Nat × Nat)) (m:Nat) (rg:RgP) (C:Cf P) (res:SV) (outs:List (Nat × Ob)) (β:Env):Eqs :=
 match runI P m0 n Ns m none rg.ks C with
 | some (.ended _ f)=>(bif f.ob.all obClB then [] else Eqs.no)++fin1 P fn m0 n res outs f β
 | _=>Eqs.no
theorem wkE_parts {P:Program} {m0 n:Nat} {f:Cf P} {u:Nat} {sl:List (Nat × SV)} {ob:List Ob} {σ:List Nat} (ev:List (Ev P)) (he:∀ β,Eqs.ok (wkE P m0 n f u sl ob σ β)) :
  f.good∧∀ {B0:Bd} {w0:World} {β:Env} {a:Act} {w:World},B0.k≤m0→Sync P m0 n B0 w0 f β a w→∃ β':Env,(∀ k,k<m0→β' k=β k)∧((∀ j,j≠u→β' j=β (σ.getD j 0))∧β' u=⟨0,fun _=>none,fun _=>0,fun _=>False,fun t=>a.tmps.getD t undef⟩)∧Sync P m0 n B0 w0 (mkC P n u sl ob ev) β' a w:=by
 refine ⟨fun β x hx=>eqsOf_ok (Eqs.right (Eqs.right (Eqs.right (he β)))) x hx,fun {B0 w0 β a w} hk hs=>?_⟩
 have h:=he β
 have h1:=bif_ok (Eqs.left h)
 rw [Bool.and_eq_true,Bool.and_eq_true] at h1
 exact wk_syncX h1.1.1 h1.2 (Eqs.left (Eqs.right h)) (Eqs.left (Eqs.right (Eqs.right h))) hs hk
theorem Sync.restartK {P:Program} {m0 n:Nat} {B0:Bd} {w0:World} {f:Cf P} {β:Env} {a:Act} {w:World} (s:Sync P m0 n B0 w0 f β a w) (df:List Deferred) (a':Act) (ha:a'.tmps=a.tmps) (hd:a'.defers=df):Sync P m0 n (bdR m0 w m0 f.q (fun k=>f.ob[k]?) β df) w f β a' w :=
 ⟨s.good.restart _ df,s.q,⟨by rw [ha]; exact s.sl.1,fun t=>by rw [ha]; exact s.sl.2 t⟩,s.of,⟨s.m0.1,s.m0.1⟩,hd,s.uq⟩
theorem fin_valX {P:Program} {fn:Func} {m0 n:Nat} {res:SV} {outs:List (Nat × Ob)} {f:Cf P} (h:∀ β,Eqs.ok (fin1 P fn m0 n res outs f β)) {B:Bd} {w0:World} {β:Env} {a:Act} {W:World} (g:Good B m0 w0 f.q (fun k=>f.ob[k]?) β W) (hq:∀ k,f.q k=true↔k<f.ob.length) (sl:SlOk β a f.sl n) (hm0:m0≤f.ob.length) :
  (results fn a.tmps).run P W=.ok (res.den β) W∧res.of f.q=true∧∀ β:Env,Eqs.ok (needEqs f.q f.ob outs):=by
 have fin:∃ r:R1 Value,run1 P m0 false (results fn (tmpsS idE f.sl n)) f.q f.ob []=some r∧res.of f.q=true∧r.ob.length=f.ob.length ∧
   ∀ β,Eqs.ok (chk P β (results fn (tmpsS β f.sl n)) r.tr.reverse (fun u=>[(.v u,.v (res.den β))])++(needEqs f.q f.ob outs++eqsOf β f.cs)):=by
  cases hx:run1 P m0 false (results fn (tmpsS idE f.sl n)) f.q f.ob [] with
  | none=>have:=h idE; unfold fin1 at this; rw [hx] at this; exact (Eqs.no_ok this).elim
  | some r =>
   obtain ⟨ra,rq,rob,rtr⟩:=r
   cases hc:(res.of f.q&&Nat.beq rob.length f.ob.length&&Nat.beq f.ev.length 0) with
   | false=>have:=h idE; unfold fin1 at this; rw [hx] at this; dsimp only at this; rw [hc] at this; exact (Eqs.no_ok this).elim
   | true =>
    have h3:=hc
    simp only [Bool.and_eq_true,Nat.beq_eq] at hc
    refine ⟨_,rfl,hc.1.1,hc.1.2,fun β=>?_⟩
    have:=h β
    unfold fin1 at this
    rw [hx] at this
    dsimp only at this
    rw [h3] at this
    exact this
 obtain ⟨r,f1,f2,f3,f4⟩:=fin
 obtain ⟨h5,_,_,tr,h8,h9⟩:=run1_ok _ _ _ _ _ f1 (fun k hk=>(hq k).1 hk)
 obtain ⟨k1,obj',k2,k3,k4⟩:=h9 _ _ _ _ _ _ g (fun k hk=>⟨hk,rfl⟩) (fun k a b=>by omega) hm0
 have h6:=f4 β
 rw [h8,List.append_nil,List.reverse_reverse] at h6
 have h7:Eqs.ok (chk P β (results fn (tmpsS β f.sl n)) tr (fun u=>[(.v u,.v (res.den β))])):=fun p hp=>h6 p (List.mem_append.2 (.inl hp))
 obtain ⟨v,hv,hv2⟩:=chk_run _ _ _ h7 k1
 obtain ⟨e1,_⟩:=Eqs.cons_ok hv2
 injection e1 with e1
 subst e1
 have hend:trEnd β W tr=W:=by
  obtain ⟨tr2,x1,x2⟩:=run1_still _ _ _ _ _ f1 (fun k hk=>(hq k).1 hk) f3
  rw [h8,List.append_nil,List.append_nil] at x1
  rw [List.reverse_inj.1 x1]
  exact x2 β W
 rw [hend] at hv
 exact ⟨by rw [tmps_eq sl]; exact hv,f2,fun β p hp=>f4 β p (List.mem_append.2 (.inr (List.mem_append.2 (.inl hp))))⟩
theorem fin1_good {P:Program} {fn:Func} {m0 n:Nat} {res:SV} {outs:List (Nat × Ob)} {f:Cf P} (h:∀ β,Eqs.ok (fin1 P fn m0 n res outs f β)):f.good:=(fin1_parts h).1
theorem leave_said {P:Program} {fn:Func} {m0 n nn:Nat} {res:SV} {outs:List (Nat × Ob)} {f f0:Cf P} {w w1 W:World} {β0 β1 β:Env} {a:Act} {D kk:Nat} (h01:∀ i,i<m0→β1 i=β0 i) (g1:Good (bd0 w.heap.size m0) m0 w f0.q (fun k=>f0.ob[k]?) β1 w1) (hcl:f.ob.all obClB=true) (hfin:∀ β,Eqs.ok (fin1 P fn m0 n res outs f β))
  (g:Good (bdR kk w1 m0 f0.q (fun k=>f0.ob[k]?) β1 []) m0 w1 f.q (fun k=>f.ob[k]?) β W) (hq:∀ k,f.q k=true↔k<f.ob.length) (sl:SlOk β a f.sl n) (hm0:m0≤f.ob.length) (hβ:∀ i,i<m0→β i=β1 i)
  (hd:a.defers=[{ target:=.collected D,args:=#[] }]) (hD:w1.heap.size≤D) (hK:W.heap[D]?=some (.deferred (some []))) :
  LeavesInM Fence.wide nn P fn a.tmps (Said P fn m0 res outs β0 w) a.defers .returning W:=by
 rw [hd]
 refine ⟨by simp,.inl ⟨_,_,rfl,run_takeDeferred hK,?_⟩⟩
 have g3:=g.grown (all_cl hcl) (grownBy_putObj' W D (.deferred none)) fun r e=>by cases e; exact ⟨hD,_,hK,rfl⟩
 have gF:=Good.back g1 g3 hβ
 obtain ⟨hv,hof,hne⟩:=fin_valX hfin gF hq sl hm0
 refine ⟨_,hv,β,f.q,fun k=>f.ob[k]?,fun k hk=>(hβ k hk).trans (h01 k hk),rfl,hof,fun p hp c hc=>?_,needs_hold gF (fun k hk=>⟨hk,rfl⟩) _ (hne β),⟨gF.bel.below⟩⟩
 have hpq:=needs_q _ (hne β) p hp
 by_cases h0:m0≤p.1
 · exact (gF.fr p.1 hpq h0 c hc).imp (fun a=>a.elim (fun a=>a.elim id False.elim) False.elim) fun ⟨i,i1,i2⟩=>⟨i,i1,by rw [← h01 i i1,← hβ i i1]; exact i2⟩
 · exact .inr ⟨p.1,by omega,by rw [← h01 p.1 (by omega),← hβ p.1 (by omega)]; exact hc⟩
theorem sx_rangeN {P:Program} {f:FuncId} {fn:Func} (args:List SV) (obs:List Ob) (evs:List (Ev P)) (Ns:List (Nat × Nat)) (m:Nat) (res:SV) (outs:List (Nat × Ob)) (need:List (Nat × Ob)) (N:Nat) (vs:Nat→List SV) (gf:Nat) (lb:Env→Array Value) (hf:P.funcs[f]?=some fn) (hm:P.follows .mixedOrders=true)
  (eg:∀ args w,(callFunc gf args).run P w=.ok (.enter gf args) w)
  {rg:RgP} {u L:Nat} {sl:List (Nat × SV)} {ob:Nat→List Ob} {ev:Nat→List (Ev P)} {σ0:List Nat} {σ:Nat→List Nat} (bad:Nat→Bool)
  (hp:(startX P fn args obs evs Ns m).bind StopX.pos=some rg) (h0:∀ β,Eqs.ok (startXE P obs.length (sizeS fn args) (startX P fn args obs evs Ns m) u sl (ob 0) σ0 β))
  (hLm:obs.length≤L) (hLob:∀ k,k≤N→L≤(ob k).length) (hLn:need.all (fun p=>Nat.blt p.1 L&&p.2.of (fun k=>Nat.blt k L))=true)
  (hcl:∀ k,k≤N→(ob k).all obClB=true) (hnd:∀ k,k≤N→∀ β:Env,Eqs.ok (needEqs (fun i=>Nat.blt i (ob k).length) (ob k) need))
  (hg:∀ β,evS β (mkC P (sizeS fn args) u sl (ob 0) []).sl rg.g=.func (.func gf) #[] (lb β)) (hlb:∀ β β':Env,(∀ i,i<L→β' i=β i)→lb β'=lb β)
  (hR:∀ k,k<N→bad k=false→∀ β,Eqs.ok (roundE P obs.length (sizeS fn args) Ns m rg (vs k) (mkC P (sizeS fn args) u sl (ob k) (ev k)) L u sl (ob (k+1)) (σ k) β))
  (hX:∀ k,k<N→bad k=true→(∀ j,j<k→bad j=false)→∀ β,Eqs.ok (roundR P fn obs.length (sizeS fn args) Ns m rg (vs k) (mkC P (sizeS fn args) u sl (ob k) (ev k)) res outs β))
  (hDn:(∀ j,j<N→bad j=false)→∀ β,Eqs.ok (doneE P fn obs.length (sizeS fn args) Ns m rg (mkC P (sizeS fn args) u sl (ob N) (ev N)) res outs β))
  (hiter:∀ (β:Env) (nn l:Nat) (J:Nat→World→Prop) (Jx:World→Prop) (W:World),(∀ k W,J k W→holdsAll β W need) →
   (∀ k W1,J k W1→k<N→YieldAt Fence.wide (nn-1) P l ((vs k).map (SV.den β)).toArray W1 fun e W'=>(e=.returned (.bool true)∧J (k+1) W')∨(e=.returned (.bool false)∧Jx W'))→J 0 W →
   CallsIn Fence.wide nn P gf (#[.func (.yield l) #[] #[]]++lb β) W fun e W'=>(∃ v,e=.returned v)∧(J N W'∨Jx W'))
  (hargs:args.all (SV.of fun k=>Nat.blt k obs.length)=true) (hobs:obs.all (fun x=>x.of (fun k=>Nat.blt k obs.length)&&x.own)=true) (β:Env) (w:World) (hh:∀ (k:Nat) (o:Ob),obs[k]?=some o→o.holds β w (β k)) :
  Calls P f (args.map (SV.den β)).toArray w (Said P fn obs.length res outs β w):=by
 have hnal:∀ (k r:Nat) (D:Thing),obs[k]?≠some (.al r D):=fun k r D ho=>by
  have:=List.all_eq_true.1 hobs _ (List.mem_of_getElem? ho)
  simp [Ob.own] at this
 have huq:UniqAl obs:=fun k j i D _ h1 _=>absurd h1 (hnal k i D)
 have hlt:∀ k,k<obs.length→∀ c,(β k).F c→c<w.heap.size:=fun k hk c hc=>by
  have h:=hh k _ (List.getElem?_eq_getElem hk)
  cases hx:obs[k] with
  | box cs t=>rw [hx] at h; rw [(h.1.1 c).1 hc]; exact heap_lt h.2
  | th D=>rw [hx] at h; exact D.st.lt _ _ h c hc
  | al r D=>rw [hx] at h; exact D.st.lt _ _ h c hc
  | pl n=>rw [hx] at h; rw [(h.1.1 c).1 hc]; exact h.2.lt
  | row cs t n sz=>rw [hx] at h; rw [(h.1.1 c).1 hc]; exact heap_lt h.2.choose_spec.1
  | ow D t=>rw [hx] at h; exact D.st.lt _ _ h.2 c hc
  | dead =>
   have:=List.all_eq_true.1 hobs _ (List.mem_of_getElem? (List.getElem?_eq_getElem hk))
   rw [hx] at this
   simp [Ob.own] at this
 cases hb:fn.body with
 | none=>unfold startX at hp; rw [hb] at hp; cases hp
 | some c =>
  obtain ⟨n,hn⟩:∃ n,n=sizeS fn args:=⟨_,rfl⟩
  rw [← hn] at h0 hg hR hX hDn
  have hst:startX P fn args obs evs Ns m=runI P obs.length n Ns m (some c) [] ⟨startS args 0,fun k=>Nat.blt k obs.length,obs,evs,[]⟩:=by unfold startX; rw [hb,hn]
  rw [hst] at hp h0
  cases hr:runI P obs.length n Ns m (some c) [] ⟨startS args 0,fun k=>Nat.blt k obs.length,obs,evs,[]⟩ with
  | none=>rw [hr] at hp; cases hp
  | some s =>
   rw [hr] at hp h0
   cases s with
   | ended b f2=>cases hp
   | range g ps x y ks fA =>
    obtain rfl:(⟨g,ps,x,y,ks⟩:RgP)=rg:=Option.some.inj hp
    dsimp only at hg hR hX hDn
    obtain ⟨hgA,hwA⟩:=wkE_parts (ev 0) h0
    obtain ⟨i1,i2,i3⟩:=runI_ok (l:=none) (nn:=10) hm _ _ _ _ _ hr ⟨fun k=>by dsimp only; rw [Nat.blt_eq],huq⟩
    obtain ⟨R,hRdef⟩:∃ R,R=Said P fn obs.length res outs β w:=⟨_,rfl⟩
    have hLQ:¬ LetsOut (bodyPostM Fence.wide 10 P fn R):=fun ⟨_,w',h⟩=>by
     rw [hRdef] at h
     obtain ⟨β',q,obj,_,h,_⟩:=h
     cases h
    rw [← hRdef]
    refine (callsIn_wide (n:=10)).1 (callsIn_of_wp_marks hf hb trivial ?_)
    refine i3 hgA (B0:=bd0 w.heap.size obs.length) (w0:=w) (β:=β) ⟨⟨Keep.refl _ _,Nat.le_refl _,fun k o hk ho=>⟨hh k o ho,(Bool.and_eq_true _ _▸List.all_eq_true.1 hobs o (List.mem_of_getElem? ho)).1⟩,fun k hk=>hlt k (by simpa [Nat.blt_eq] using hk),fun k j hk _ _ hm=>?_,fun k _ hk hm=>?_,fun k hk hm=>?_,fun i hi=>by rw [Nat.blt_eq]; exact hi,fun k r D _ ho=>?_,fun k r D _ ho=>absurd ho (hnal k r D),fun k i _ hi _ hm=>by rw [Nat.blt_eq] at hi; omega⟩,fun k=>by dsimp only; rw [Nat.blt_eq],⟨?_,fun t=>?_⟩,fun t=>?_,⟨Nat.le_refl _,Nat.le_refl _⟩,rfl,huq⟩ _ hLQ fun βA a1 w1 eA sA=>?_
    · rw [Nat.blt_eq] at hk; omega
    · rw [Nat.blt_eq] at hk; omega
    · rw [Nat.blt_eq] at hk; omega
    · exact absurd ho (hnal k r D)
    · rw [hn]; simp [sizeS]
    · rw [look_start,if_pos (Nat.zero_le _),Nat.sub_zero]
      simp only [Array.getD_eq_getD_getElem?,Array.getElem?_append,List.size_toArray,List.length_map,List.getElem?_toArray,List.getElem?_map]
      split
      · rename_i hlt2
        rw [List.getElem?_eq_getElem hlt2]
        rfl
      · rename_i hge
        rw [List.getElem?_eq_none (by omega)]
        simp [Array.getElem?_replicate]
        split<;>rfl
    · dsimp only
      rw [look_start,if_pos (Nat.zero_le _),Nat.sub_zero]
      cases hx:args[t]? with
      | none=>rfl
      | some x=>exact List.all_eq_true.1 hargs x (List.mem_of_getElem? hx)
    ·
     obtain ⟨β1,e1,eu,s1⟩:=hwA (Nat.le_refl _) sA
     have eB:∀ i,i<obs.length→β1 i=β i:=fun i hi=>(e1 i hi).trans (eA i hi)
     have hdf:a1.defers=[]:=s1.defers
     have s2:=s1.restartK [] a1 rfl hdf
     obtain ⟨B,hB⟩:∃ B,B=bdR obs.length w1 obs.length (mkC P n u sl (ob 0) (ev 0)).q (fun k=>(mkC P n u sl (ob 0) (ev 0)).ob[k]?) β1 []:=⟨_,rfl⟩
     rw [← hB] at s2
     have hBk:B.k≤obs.length:=by rw [hB]; exact Nat.le_refl _
     have hBn:B.n=w1.heap.size:=by rw [hB]; rfl
     have hBd:B.df=[]:=by rw [hB]; rfl
     have hfull:∀ {k:Nat} {βk:Env} {W:World} {b:Bd},Sync P obs.length n b w1 (mkC P n u sl (ob k) (ev k)) βk a1 W→(mkC P n u sl (ob k) (ev k)).full:=fun s=>⟨s.q,s.uq⟩
     show (Code.rangeFunc g ps x y).wpIn Fence.wide 10 P (postI none 10 P _ ks) a1 w1
     refine rf_law (n:=10) (gf:=gf) (lb:=lb β1) (by rw [s1.sl.eval]; exact hg β1) eg N (fun k=>((vs k).map (SV.den β1)).toArray)
      (fun k W=>(k≤N∧∀ j,j<k→bad j=false)∧∃ βk,(∀ i,i<L→βk i=β1 i)∧Sync P obs.length n B w1 (mkC P n u sl (ob k) (ev k)) βk a1 W)
      ?_ (fun W=>∃ f',(f'.ob.all obClB=true∧∀ β,Eqs.ok (fin1 P fn obs.length n res outs f' β))∧∃ βk,(∀ i,i<obs.length→βk i=β1 i)∧Sync P obs.length n B w1 f' βk a1 W)
      ?_ ?_ ⟨⟨Nat.zero_le _,fun j hj=>absurd hj (Nat.not_lt_zero j)⟩,β1,fun _ _=>rfl,s2⟩ ?_ ?_ ?_ ?_
     · rintro k W ⟨⟨h1,h1b⟩,βk,h2,s⟩ hk
       cases hbk:bad k with
       | false =>
        have hE:=hR k hk hbk
        cases hrs:roundS P obs.length n Ns m ps x y (mkC P n u sl (ob k) (ev k)).sl (vs k) (mkC P n u sl (ob k) (ev k)) with
        | none=>have:=hE idE; unfold roundE at this; rw [hrs] at this; exact (Eqs.no_ok this).elim
        | some bf =>
         obtain ⟨b,f'⟩:=bf
         obtain ⟨_,_,_,d2,_⟩:=roundS_ok (nn:=0) (l:=0) hm hrs (hfull s) rfl
         simpa using d2
       | true =>
        have hE:=hX k hk hbk h1b
        cases hrs:roundS P obs.length n Ns m ps x y (mkC P n u sl (ob k) (ev k)).sl (vs k) (mkC P n u sl (ob k) (ev k)) with
        | none=>have:=hE idE; unfold roundR at this; rw [hrs] at this; exact (Eqs.no_ok this).elim
        | some bf =>
         obtain ⟨b,f'⟩:=bf
         obtain ⟨_,_,_,d2,_⟩:=roundS_ok (nn:=0) (l:=0) hm hrs (hfull s) rfl
         simpa using d2
     · rintro k W W' row ⟨h1,βk,h2,s⟩ hgr hrow
       exact ⟨h1,βk,h2,⟨s.good.grown (all_cl (hcl k h1.1)) hgr (fun r e=>by have:=hrow r e; rw [hBn]; exact this),s.q,s.sl,s.of,s.m0,s.defers,s.uq⟩⟩
     · rintro W W' row ⟨f',h1,βk,h2,s⟩ hgr hrow
       exact ⟨f',h1,βk,h2,⟨s.good.grown (all_cl h1.1) hgr (fun r e=>by have:=hrow r e; rw [hBn]; exact this),s.q,s.sl,s.of,s.m0,s.defers,s.uq⟩⟩
     · intro l J Jx W hJ hY h0
       refine hiter β1 9 l J Jx W (fun k W hj p hp=>?_) hY h0
       obtain ⟨⟨h1,_⟩,βk,h2,s⟩:=hJ k W hj
       have h3:=needs_hold s.good (fun k hk=>⟨hk,rfl⟩) need (hnd k h1 βk) p hp
       have h4:=List.all_eq_true.1 hLn p hp
       rw [Bool.and_eq_true,Nat.blt_eq] at h4
       rw [← h2 p.1 h4.1]
       exact Ob.holds_congr (q:=fun k=>Nat.blt k L) (fun i hi=>h2 i (by rw [Nat.blt_eq] at hi; exact hi)) p.2 h4.2 h3
     · rintro l k W hl hlo ⟨⟨h1,h1b⟩,βk,h2,s⟩ hk
       have hvv:∀ (hv:(vs k).all (SV.of fun _=>false)=true),((vs k).map (SV.den β1))=((vs k).map (SV.den βk)):=fun hv=>List.map_congr_left fun z hz=>SV.den_congr (q:=fun _=>false) (fun k hk=>by cases hk) z (List.all_eq_true.1 hv z hz)
       cases hbk:bad k with
       | false =>
        have hE:=hR k hk hbk
        cases hrs:roundS P obs.length n Ns m ps x y (mkC P n u sl (ob k) (ev k)).sl (vs k) (mkC P n u sl (ob k) (ev k)) with
        | none=>have:=hE idE; unfold roundE at this; rw [hrs] at this; exact (Eqs.no_ok this).elim
        | some bf =>
         obtain ⟨b,f'⟩:=bf
         cases b with
         | true=>have:=hE idE; unfold roundE at this; rw [hrs] at this; exact (Eqs.no_ok this).elim
         | false =>
         have hE2:∀ β,Eqs.ok ((bif fixB L u (σ k) then [] else Eqs.no)++wkE P obs.length n f' u sl (ob (k+1)) (σ k) β):=fun β=>by
          have:=hE β
          unfold roundE at this
          dsimp only at this
          rw [hrs] at this
          exact this
         have hfix:=bif_ok (Eqs.left (hE2 idE))
         obtain ⟨hgf,hwk⟩:=wkE_parts (ev (k+1)) fun β=>Eqs.right (hE2 β)
         obtain ⟨_,_,_,_,d6,d5⟩:=roundS_ok (nn:=8) (l:=l) hm hrs (hfull s) rfl
         rw [hvv d6]
         refine d5 hgf (hcl k h1) s hBd (Nat.le_trans hBk s.m0.1) w1.heap.size ⟨hl,by rw [hBn]; exact hl⟩ hlo _ _ fun β' W' e s'=>⟨fun _=>⟨⟨hk,fun j hj=>?_⟩,?_⟩,(fun hb=>by cases hb)⟩
         · rcases Nat.lt_succ_iff_lt_or_eq.1 hj with h | rfl
           · exact h1b j h
           · exact hbk
         · obtain ⟨β2,_,⟨e3,e4⟩,s3⟩:=hwk hBk s'
           refine ⟨β2,fun i hi=>?_,s3⟩
           by_cases hiu:i=u
           · subst hiu
             rw [e4,eu.2]
           · rw [e3 i hiu]
             have h5:=List.all_eq_true.1 hfix i (List.mem_range.2 hi)
             rw [Bool.or_eq_true,Nat.beq_eq,Nat.beq_eq] at h5
             rw [h5.resolve_left hiu,e i (Nat.lt_of_lt_of_le hi (hLob k h1)),h2 i hi]
       | true =>
        have hE:=hX k hk hbk h1b
        cases hrs:roundS P obs.length n Ns m ps x y (mkC P n u sl (ob k) (ev k)).sl (vs k) (mkC P n u sl (ob k) (ev k)) with
        | none=>have:=hE idE; unfold roundR at this; rw [hrs] at this; exact (Eqs.no_ok this).elim
        | some bf =>
         obtain ⟨b,f'⟩:=bf
         cases b with
         | false=>have:=hE idE; unfold roundR at this; rw [hrs] at this; exact (Eqs.no_ok this).elim
         | true =>
         have hE2:∀ β,Eqs.ok ((bif f'.ob.all obClB then [] else Eqs.no)++fin1 P fn obs.length n res outs f' β):=fun β=>by
          have:=hE β
          unfold roundR at this
          dsimp only at this
          rw [hrs] at this
          exact this
         have hclf:=bif_ok (Eqs.left (hE2 idE))
         have hfin:∀ β,Eqs.ok (fin1 P fn obs.length n res outs f' β):=fun β=>Eqs.right (hE2 β)
         obtain ⟨_,_,_,_,d6,d5⟩:=roundS_ok (nn:=8) (l:=l) hm hrs (hfull s) rfl
         rw [hvv d6]
         refine d5 (fin1_good hfin) (hcl k h1) s hBd (Nat.le_trans hBk s.m0.1) w1.heap.size ⟨hl,by rw [hBn]; exact hl⟩ hlo _ _ fun β' W' e s'=>⟨(fun hb=>by cases hb),fun _=>⟨f',⟨hclf,hfin⟩,β',fun i hi=>?_,s'⟩⟩
         rw [e i (Nat.lt_of_lt_of_le hi s.m0.1),h2 i (Nat.lt_of_lt_of_le hi hLm)]
     · rintro D W hD ⟨⟨_,h1b⟩,βN,h2,s⟩ hK
       have hE:=hDn h1b
       cases hrs:runI P obs.length n Ns m none ks (mkC P n u sl (ob N) (ev N)) with
       | none=>have:=hE idE; unfold doneE at this; dsimp only at this; rw [hrs] at this; exact (Eqs.no_ok this).elim
       | some st =>
        cases st with
        | range g2 ps2 x2 y2 ks2 f2=>have:=hE idE; unfold doneE at this; dsimp only at this; rw [hrs] at this; exact (Eqs.no_ok this).elim
        | ended b fB =>
         have hE2:∀ β,Eqs.ok ((bif fB.ob.all obClB then [] else Eqs.no)++fin1 P fn obs.length n res outs fB β):=fun β=>by
          have:=hE β
          unfold doneE at this
          dsimp only at this
          rw [hrs] at this
          exact this
         have hclf:=bif_ok (Eqs.left (hE2 idE))
         have hfin:∀ β,Eqs.ok (fin1 P fn obs.length n res outs fB β):=fun β=>Eqs.right (hE2 β)
         obtain ⟨j1,j2,j3⟩:=runI_ok (l:=none) (nn:=10) hm _ _ _ _ _ hrs (hfull s)
         have s3:=s.restartK ({ target:=.collected D,args:=#[] }::a1.defers) { a1 with defers:={ target:=.collected D,args:=#[] }::a1.defers } rfl rfl
         refine j3 (fin1_good hfin) s3 _ hLQ fun β2 a2 W2 e2 s4=>?_
         have gB:=Good.back s.good s4.good fun i hi=>e2 i hi
         have hK2:=(keeps_from (B:=0) s.good (all_cl (hcl N (Nat.le_refl N))) s4.good.bel).same D _ (Nat.zero_le _) hK rfl
         have hdd:a2.defers=[{ target:=.collected D,args:=#[] }]:=by
          have:a2.defers={ target:=.collected D,args:=#[] }::a1.defers:=s4.defers
          rw [this,hdf]
         rw [hB] at gB
         have hLL:=leave_said (nn:=10) eB s1.good hclf hfin gB s4.q s4.sl s4.m0.1 (fun i hi=>(e2 i hi).trans (h2 i (Nat.lt_of_lt_of_le hi hLm))) hdd hD hK2
         rw [← hRdef] at hLL
         cases b<;>exact hLL
     · rintro D W hD ⟨f',h1,βk,h2,s⟩ hK
       refine postI_ret ?_ ks
       have hdd:({ a1 with defers:={ target:=.collected D,args:=#[] }::a1.defers }:Act).defers=[{ target:=.collected D,args:=#[] }]:=by
        show ({ target:=.collected D,args:=#[] }:Deferred)::a1.defers=_
        rw [hdf]
       have gB:=s.good
       rw [hB] at gB
       have hLL:=leave_said (nn:=10) (a:={ a1 with defers:={ target:=.collected D,args:=#[] }::a1.defers }) eB s1.good h1.1 h1.2 gB s.q ⟨s.sl.1,s.sl.2⟩ s.m0.1 h2 hdd hD hK
       rw [← hRdef] at hLL
       exact hLL
end Go.Proofs.YtbepimnlleilfaaGreat.Y
end
section
namespace Go.Proofs.YtbepimnlleilfaaGreat
open Go Go.RowKit Go.Shelf
attribute [local go_sem] Oper.semAt_some
def BwoH (Bs b of len cap:Nat) (a:Option Addr) (V:Nat→List Value) (W:World):Prop :=
 W.cell? ⟨Bs,0,none⟩=some (.slice a len cap)∧∀ i,i<len→W.rangeAt b (of+i*33) (V i)
set_option maxRecDepth 100000 in
set_option maxHeartbeats 4000000 in
theorem bwo_pos (n l Bs b of len cap:Nat) (V:Nat→List Value) (hV:∀ i,(V i).length=33) (hreach:len≤4096) (J:Nat→World→Prop) (Jx:World→Prop)
  (hJ:∀ k W,J k W→BwoH Bs b of len cap (some ⟨b,of,none⟩) V W)
  (hY:∀ k W,J k W→k<len→YieldAt Fence.wide (n-1) Tryz.prog l #[.int .i64 ((len:Int)-1-k),.agg (V (len-1-k)).toArray] W fun e W'=>(e=.returned (.bool true)∧J (k+1) W')∨(e=.returned (.bool false)∧Jx W'))
  (W:World) (h0:J 0 W) :
  CallsIn Fence.wide n Tryz.prog 294 #[.func (.yield l) #[] #[],.pointer (some ⟨Bs,0,none⟩)] W fun e W'=>(∃ v,e=.returned v)∧(J len W'∨Jx W'):=by
 have hB0:=(hJ 0 W h0).1
 have hn:Fence.wide.depth.isSome=true→1≤n:=fun e=>by simp [Fence.wide] at e
 refine callsIn_of_wp Tryz.func294 rfl trivial ?_ rfl
 simp only [Tryz.ntmps294,List.size_toArray,List.length_cons,List.length_nil,Nat.reduceAdd,Nat.reduceSub,Array.replicate_succ,Array.replicate_zero,List.push_toArray,List.append_toArray,List.nil_append,List.cons_append]
 gi_wp2
 gi_loopw [3] (fun i wr=>∃ k:Nat,k≤len∧i=.int .i64 ((len:Int)-1-k)∧J k wr)
  (fun i _=>(intOf i+1).toNat)
 case atStart=>exact ⟨0,Nat.zero_le _,by simp,h0⟩
 case round =>
  obtain ⟨k,hk,rfl,hJs⟩:=hrel
  obtain ⟨hB1,hR1⟩:=hJ k wr hJs
  by_cases hlt:k<len
  · obtain ⟨i,hi⟩:∃ i,i=len-1-k:=⟨_,rfl⟩
    have hi2:i<len:=by omega
    have hie:(len:Int)-1-(k:Int)=(i:Int):=by omega
    obtain ⟨fn,tmps,assign,body,hy,hR⟩:=hY k wr hJs hlt
    rw [hie] at hy ⊢
    rw [← hi] at hy
    clear hi
    have hl:=run_loadAt_mid (P:=Tryz.prog) wr b (of+i*33) 48 (V i) _ (hR1 i hi2) Tryz.underlying48 (by kernel_rfl) (by rw [hV]; kernel_rfl)
    gi_wp2_with (refine bw_load (T:=48) rfl _ rfl _ _ rfl hl ?_)
    refine ⟨hn,hR.mono ?_⟩
    rintro e W3 (⟨rfl,hJ3⟩ | ⟨rfl,hJx3⟩)
    · gi_wp2
      go_roundw
      case rel=>exact ⟨k+1,by omega,by congr 1; simp<;>omega,hJ3⟩
      case measure=>simp [intOf]<;>omega
    · gi_wp2
      refine bodyPost_ret (results_none rfl _ _ _) rfl ?_
      exact ⟨⟨_,rfl⟩,.inr hJx3⟩
  · obtain rfl:k=len:=by omega
    gi_wp2
    go_end0
    exact ⟨⟨_,rfl⟩,.inl hJs⟩
set_option maxRecDepth 100000 in
set_option maxHeartbeats 4000000 in
theorem bwo_nil (n l Bs cap:Nat) (a:Option Addr) (J:Nat→World→Prop) (Jx:World→Prop)
  (hJ:∀ k W,J k W→W.cell? ⟨Bs,0,none⟩=some (.slice a 0 cap)) (W:World) (h0:J 0 W) :
  CallsIn Fence.wide n Tryz.prog 294 #[.func (.yield l) #[] #[],.pointer (some ⟨Bs,0,none⟩)] W fun e W'=>(∃ v,e=.returned v)∧(J 0 W'∨Jx W'):=by
 have hB0:=hJ 0 W h0
 refine callsIn_of_wp Tryz.func294 rfl trivial ?_ rfl
 simp only [Tryz.ntmps294,List.size_toArray,List.length_cons,List.length_nil,Nat.reduceAdd,Nat.reduceSub,Array.replicate_succ,Array.replicate_zero,List.push_toArray,List.append_toArray,List.nil_append,List.cons_append]
 gi_wp2
 gi_loopw [3] (fun i wr=>i=.int .i64 (-1)∧J 0 wr)
  (fun i _=>(intOf i+1).toNat)
 case atStart=>exact ⟨by simp,h0⟩
 case round =>
  obtain ⟨rfl,hJs⟩:=hrel
  gi_wp2
  go_end0
  exact ⟨⟨_,rfl⟩,.inl hJs⟩
end Go.Proofs.YtbepimnlleilfaaGreat
end
section
namespace Go.Proofs.YtbepimnlleilfaaGreat.Y
open Go Go.RowKit
set_option maxRecDepth 100000
abbrev BWR:FuncId:=166
theorem bwn_own {i n m:Nat} (h:Nat.blt i n=true) (β:Env) (w:World):Calls Tryz.prog BWR #[.slice ((β i).v 0) m ((β i).c 0)] w fun e w'=>∃ (g:Pl) (xs:List Pl),(w.heap.size≤g.b∧fresh β w [] xs∧∀ x∈xs,¬ x.F g.b)∧e=.returned ((SV.one (.c (.f (.func BWF) [] [.p n 0]))).den (extE β n (g::xs)))∧(Ob.box [.b (.y i 0 m)] TMs).holds (extE β n (g::xs)) w' g∧newHold w' [] xs∧Below w.heap.size w w':=by
 rw [Nat.blt_eq] at h
 refine (bwd_any _ m _ w).mono fun e w' ⟨he,hw⟩=>?_
 subst hw
 have e1:extE β n [bwPl w.heap.size] n=bwPl w.heap.size:=by
  have:=extE_in (β:=β) (n:=n) (xs:=[bwPl w.heap.size]) (i:=0) rfl
  simpa using this
 have e2:extE β n [bwPl w.heap.size] i=β i:=extE_out (by simp; omega)
 refine ⟨bwPl w.heap.size,[],⟨Nat.le_refl _,(fun x hx=>by cases hx),fun x hx=>by cases hx⟩,?_,⟨⟨fun c=>Iff.rfl,fun i=>rfl⟩,?_⟩,trivial,?_⟩
 · rw [he]
   show _=Ending.returned (Value.func (.func BWF) #[] #[.pointer (some ⟨(extE β n [bwPl w.heap.size] n).b,0,none⟩)])
   rw [e1]
   rfl
 · show (w.alloc _).heap[w.heap.size]?=some (.cells #[.slice ((extE β n [bwPl w.heap.size] i).v 0) m ((extE β n [bwPl w.heap.size] i).c 0)] _ (0,0))
   rw [e2,alloc_heap]
   simp
 · exact ((Below.refl _ w).alloc (Nat.le_refl _) _)
def evBwn (m:Nat):Ev Tryz.prog:=.dyn (fun o _ _=>isCallB o) fun _ xs ob=>lit (lsYOf (xs.getD 0 undefS)) fun i=>lit ob.length fun n=>match h:Nat.blt i n with
 | true=>.own BWR Tryz.call166 (fun β=>#[.slice ((β i).v 0) m ((β i).c 0)]) [] n (.box [.b (.y i 0 m)] TMs) (.one (.c (.f (.func BWF) [] [.p n 0]))) [] (fun β w _=>bwn_own h β w)
 | false=>.cut
def mrow (Q:Nat→MQ) (n:Nat):Nat→MQ
 | 0=>mid false
 | k+1=>mcmp (Q (n-1-k)) (mrow Q n k)
def MrFit (Q:Nat→MQ) (n k:Nat):Prop:=∀ j,j≤k→FitM (mrow Q n j)
theorem mrow_reg {Q:Nat→MQ} {n:Nat} (h:∀ i,i<n→MayQ (Q i)):∀ k,k≤n→Reg (mrow Q n k)
 | 0,_=>Reg.id false
 | k+1,hk=>((h (n-1-k) (by omega)).reg.beh (mrow_reg h k (by omega))).mnorm
theorem mrow_nrm {Q:Nat→MQ} {n:Nat} (h:∀ i,i<n→MayQ (Q i)):∀ k,k≤n→Nrm (mrow Q n k)
 | 0,_=>by unfold Nrm mrow mid; rfl
 | k+1,hk=>Nrm.cmp (h (n-1-k) (by omega)).reg (mrow_reg h k (by omega))
noncomputable def sMoOpen (p:Mo) (h:p.B=true):Spec Tryz.prog:=(sOpenYes (moQ_ok h).1).as [.one (.a (moL p))] (.tup [mA 0 (moQ p),.c (.b (.v (.bool true)))]) (by
 show [SV.one (.a (mCl (moQ p)))]=_
 rw [← (moQ_ok h).2]) rfl
noncomputable abbrev coF:Func:=Tryz.f40
abbrev coA (n:Nat):List SV:=[moS n]
noncomputable abbrev coQ (C:Nat→Mo) (i:Nat):MQ:=moQ (C i)
abbrev ERR:TypeId:=34
def moX (N:Nat) (C:Nat→Mo):Thing:=⟨RwD 33 N (moR C),lsRw_stable 33 N (moR C),1,RwD 33 N (moR C),lsRw_stable 33 N (moR C),fun _ _ h=>h,false,fun h=>(Bool.noConfusion h),false,fun h=>(Bool.noConfusion h),true,fun _ w g h c hc=>by
 rcases h with h | ⟨h0,b,o,cs,t,fr,h1,h2,h3,h4⟩
 · exact absurd hc (h.2 c)
 · rw [(h2 c).1 hc]
   exact ⟨_,_,_,h3⟩,false,fun h=>(Bool.noConfusion h)⟩
abbrev coSl:List (Nat × SV):=[(2,.one (.c (.b (.p 2 0)))),(3,.one (.c (.b (.p 3 0)))),(4,.one (.c (.b (.p 4 0)))),(20,.one (.c (.f (.func BWF) [] [.p 5 0])))]
abbrev coOb (n N:Nat) (C:Nat→Mo) (X:MQ):List Ob:=[(moX N C).ob,.dead,.box mob0L MOB,.box [.b (.v (.int .i64 0))] ERR,.box (mAl 6 X) MTX,.box [.b (.y 0 0 n)] TMs]++(mM X).map Thing.ob
abbrev coV (n:Nat) (C:Nat→Mo) (k:Nat):List SV:=[.one (nI' ((n:Int)-1-(k:Int))),.one (.a (moR C (n-1-k)))]
abbrev coNeed (n N:Nat) (C:Nat→Mo) (K:Nat):List (Nat × Ob):=[(0,(moT N C).ob),(K,.box [.b (.y 0 0 n)] TMs)]
theorem co_iter {n N:Nat} (C:Nat→Mo) (hN:n≤N) (hn:n≤4096) (K:Nat) (β:Env) (nn l:Nat) (J:Nat→World→Prop) (Jx:World→Prop) (W:World) (hJ:∀ k W,J k W→holdsAll β W (coNeed n N C K))
  (hY:∀ k W1,J k W1→k<n→YieldAt Fence.wide (nn-1) Tryz.prog l ((coV n C k).map (SV.den β)).toArray W1 fun e W'=>(e=.returned (.bool true)∧J (k+1) W')∨(e=.returned (.bool false)∧Jx W')) (h0:J 0 W) :
  CallsIn Fence.wide nn Tryz.prog BWF (#[.func (.yield l) #[] #[]]++#[.pointer (some ⟨(β K).b,0,none⟩)]) W fun e W'=>(∃ v,e=.returned v)∧(J n W'∨Jx W'):=by
 have hc:∀ k W,J k W→W.cell? ⟨(β K).b,0,none⟩=some (.slice ((β 0).v 0) n ((β 0).c 0)):=fun k W hj=>by
  have h2:(Ob.box [.b (.y 0 0 n)] TMs).holds β W (β K):=hJ k W hj (K,_) (by simp)
  simp only [World.cell?,h2.2]
  rfl
 have hd:∀ k W,J k W→RwD 33 N (moR C) W (β 0):=fun k W hj=>by
  have h1:(moT N C).ob.holds β W (β 0):=hJ k W hj (0,(moT N C).ob) (by simp)
  exact h1
 rcases Nat.eq_zero_or_pos n with rfl | hp
 · exact bwo_nil nn l (β K).b _ _ J Jx hc W h0
 · rcases hd 0 W h0 with ⟨h,_⟩ | ⟨_,b,o,cs,t,fr,hv,_⟩
   · omega
   · have hv0:(β 0).v 0=some ⟨b,o,none⟩:=hv 0
     refine bwo_pos nn l (β K).b b o n ((β 0).c 0) (fun i=>(moR C i).map (Lf.den idE)) (fun i=>?_) hn J Jx (fun k W hj=>⟨?_,fun i hi=>?_⟩) (fun k W hj hk=>hY k W hj hk) W h0
     · rw [List.length_map]
       rfl
     · rw [hc k W hj,hv0]
     · rcases hd k W hj with ⟨h,_⟩ | ⟨_,b',o',cs',t',fr',hv',_,_,hr⟩
       · omega
       · have e:=hv' 0
         rw [hv0] at e
         injection e with e
         injection e with e1 e2 e3
         subst e1
         have e2:o=o':=e2
         subst e2
         exact hr i (Nat.lt_of_lt_of_le hi hN)
section
variable {n:Nat} (C:Nat→Mo) (h:∀ i,i<n→(C i).B=true)
noncomputable abbrev coX (C:Nat→Mo) (n k:Nat):MQ:=mrow (coQ C) n k
include h in
theorem co_may:∀ i,i<n→MayQ (coQ C i):=fun i hi=>(moQ_ok (h i hi)).1
section
variable {k:Nat} (hk:k<n) (hF:FitM (coX C n k))
include h hk hF in
theorem co_sz:MSz KM (coX C n (k+1)):=(mcmp_sz (i:=KW) (j:=1024) ((fitM_sz (co_may C h (n-1-k) (by omega)).1).mono (by decide)) (fitM_sz hF) ((co_may C h (n-1-k) (by omega)).reg.beh (mrow_reg (co_may C h) k (by omega)))).mono (by decide)
noncomputable def coBeh:Spec Tryz.prog:=sBehR (m:=coQ C (n-1-k)) (n:=coX C n k) ((fitM_sz (co_may C h (n-1-k) (by omega)).1).mono (by decide)) ((fitM_sz hF).mono (by decide)) ((co_may C h (n-1-k) (by omega)).reg.beh (mrow_reg (co_may C h) k (by omega)))
noncomputable def coTY (hF2:FitM (coX C n (k+1))):Spec Tryz.prog:=(sToldN (co_sz C h hk hF) (mrow_nrm (co_may C h) (k+1) hk)).conv (mpRY (coX C n (k+1))) (by
 show SV.tup [.a (lsX (maC (coX C n (k+1)))),.c (.b (.v (.int .i64 (maK (coX C n (k+1))))))]=_
 rw [(ma_fit hF2).1,(ma_fit hF2).2])
noncomputable def coTN (hF2:¬ FitM (coX C n (k+1))):Spec Tryz.prog:=(sToldN (co_sz C h hk hF) (mrow_nrm (co_may C h) (k+1) hk)).conv (mpRN 4) (by
 show SV.tup [.a (lsX (maC (coX C n (k+1)))),.c (.b (.v (.int .i64 (maK (coX C n (k+1))))))]=_
 rw [(maC_no hF2).1,(maC_no hF2).2]
 rfl)
end
noncomputable def coTE (hF:FitM (coX C n n)):Spec Tryz.prog:=(sToldN ((fitM_sz hF).mono (by decide)) (mrow_nrm (co_may C h) n (Nat.le_refl n))).conv (mpRY (coX C n n)) (by
 show SV.tup [.a (lsX (maC (coX C n n))),.c (.b (.v (.int .i64 (maK (coX C n n)))))]=_
 rw [(ma_fit hF).1,(ma_fit hF).2])
noncomputable abbrev coN (n:Nat):Nat:=sizeS coF (coA n)
noncomputable abbrev coRg:RgP:=rgAt coF 0
abbrev coS:List Nat:=[0,0,2,3,4,5,24,25,26,27,28,29,30,31]
noncomputable abbrev coC (n N:Nat) (C:Nat→Mo) (k:Nat) (ev:List (Ev Tryz.prog)):Cf Tryz.prog:=mkC Tryz.prog (coN n) 1 coSl (coOb n N C (coX C n k)) ev
section
variable {N:Nat} (hN:n≤N) (hn:n≤4096)
noncomputable def coE0:List (Ev Tryz.prog):=[.eqv 13 (.bool (decide ((4096:Int)<(n:Int)))) (.bool false) (by rw [decide_eq_false (by omega)]),(sMoHas C hN (Nat.le_trans hn (by decide)) h).e,sStill.e,evBwn n]
theorem co_pos:(startX Tryz.prog coF (coA n) [(moX N C).ob] (coE0 C h hN hn) [] 2000).bind StopX.pos=some coRg:=by kernel_rfl
theorem co_st (β:Env):Eqs.ok (startXE Tryz.prog 1 (coN n) (startX Tryz.prog coF (coA n) [(moX N C).ob] (coE0 C h hN hn) [] 2000) 1 coSl (coOb n N C (coX C n 0)) [0,0,1,2,11,12,3,4,5,6,7,8,9,10] β) :=
 ok_of_maps (by kernel_rfl)
end
theorem co_round (N:Nat) {k:Nat} (hk:k<n) (hF:FitM (coX C n k)) (hF2:FitM (coX C n (k+1))) (β:Env) :
  Eqs.ok (roundE Tryz.prog 1 (coN n) [] 2000 coRg (coV n C k) (coC n N C k [(sMoOpen (C (n-1-k)) (h _ (by omega))).e,(coBeh C h hk hF).e,(coTY C h hk hF hF2).e]) 6 1 coSl (coOb n N C (coX C n (k+1))) coS β) :=
 ok_of_maps (by kernel_rfl)
theorem co_bad (N:Nat) {k:Nat} (hk:k<n) (hF:FitM (coX C n k)) (hF2:¬ FitM (coX C n (k+1))) (β:Env) :
  Eqs.ok (roundR Tryz.prog coF 1 (coN n) [] 2000 coRg (coV n C k) (coC n N C k [(sMoOpen (C (n-1-k)) (h _ (by omega))).e,(coBeh C h hk hF).e,(coTN C h hk hF hF2).e]) (mpRN 4) [] β) :=
 ok_of_maps (by kernel_rfl)
theorem co_done (N:Nat) (hF:FitM (coX C n n)) (β:Env) :
  Eqs.ok (doneE Tryz.prog coF 1 (coN n) [] 2000 coRg (coC n N C n [(coTE C h hF).e]) (mpRY (coX C n n)) [] β) :=
 ok_of_maps (by kernel_rfl)
theorem co_nd (N:Nat) (X:MQ) (β:Env):Eqs.ok (needEqs (fun i=>Nat.blt i 14) (coOb n N C X) (coNeed n N C 5)):=ok_of_maps (by kernel_rfl)
end
section
variable {n N:Nat} (C:Nat→Mo) (hN:n≤N) (hn:n≤4096) (h:∀ i,i<n→(C i).B=true)
include hN hn h in
theorem coY_ok (hF:MrFit (coQ C) n n) (β:Env) (w:World) (hh:(moT N C).D w (β 0)):Calls Tryz.prog 40 ((coA n).map (SV.den β)).toArray w (Said Tryz.prog coF 1 (mpRY (coX C n n)) [] β w):=by
 obtain ⟨ev,he1,he2⟩:∃ ev:Nat→List (Ev Tryz.prog),(∀ k (hk:k<n),ev k=[(sMoOpen (C (n-1-k)) (h _ (by omega))).e,(coBeh C h hk (hF k (by omega))).e,(coTY C h hk (hF k (by omega)) (hF (k+1) (by omega))).e])∧ev n=[(coTE C h (hF n (Nat.le_refl n))).e] :=
  ⟨fun k=>if hk:k<n then _ else _,fun k hk=>dif_pos hk,dif_neg (Nat.lt_irrefl n)⟩
 refine sx_rangeN (P:=Tryz.prog) (coA n) [(moX N C).ob] (coE0 C h hN hn) [] 2000 (mpRY (coX C n n)) [] (coNeed n N C 5) n (coV n C) BWF (fun β=>#[.pointer (some ⟨(β 5).b,0,none⟩)]) Tryz.func40 hmA Tryz.call294
  (rg:=coRg) (u:=1) (L:=6) (sl:=coSl) (ob:=fun k=>coOb n N C (coX C n k)) (ev:=ev) (σ0:=[0,0,1,2,11,12,3,4,5,6,7,8,9,10]) (σ:=fun _=>coS) (fun _=>false) (co_pos C h hN hn) (fun β=>co_st C h hN hn β) (Nat.le_of_ble_eq_true rfl) (fun k _=>(by decide:6≤14)) (by kernel_rfl) (fun k _=>by kernel_rfl) (fun k _ β=>co_nd C N _ β)
  (fun β=>by kernel_rfl) (fun β β' e=>by rw [e 5 (by decide)]) (fun k hk _ β=>?_) (fun k _ hb=>by cases hb) (fun _ β=>?_) (co_iter C hN hn 5) (by kernel_rfl) (by kernel_rfl) β w (fun k o ho=>by
   cases k with
   | zero=>simp only [List.getElem?_cons_zero] at ho; obtain rfl:=Option.some.inj ho; exact hh
   | succ k=>simp at ho)
 · rw [he1 k hk]
   exact co_round C h N hk (hF k (by omega)) (hF (k+1) (by omega)) β
 · rw [he2]
   exact co_done C h N (hF n (Nat.le_refl n)) β
include hN hn h in
theorem coN_ok {i:Nat} (hi:i<n) (hF:MrFit (coQ C) n i) (hF2:¬ FitM (coX C n (i+1))) (β:Env) (w:World) (hh:(moT N C).D w (β 0)):Calls Tryz.prog 40 ((coA n).map (SV.den β)).toArray w (Said Tryz.prog coF 1 (mpRN 4) [] β w):=by
 obtain ⟨ev,he1,he2⟩:∃ ev:Nat→List (Ev Tryz.prog),(∀ k (hk:k<i),ev k=[(sMoOpen (C (n-1-k)) (h _ (by omega))).e,(coBeh C h (by omega:k<n) (hF k (by omega))).e,(coTY C h (by omega:k<n) (hF k (by omega)) (hF (k+1) (by omega))).e])∧ev i=[(sMoOpen (C (n-1-i)) (h _ (by omega))).e,(coBeh C h hi (hF i (Nat.le_refl i))).e,(coTN C h hi (hF i (Nat.le_refl i)) hF2).e] :=
  ⟨fun k=>if hk:k<i then _ else _,fun k hk=>dif_pos hk,dif_neg (Nat.lt_irrefl i)⟩
 refine sx_rangeN (P:=Tryz.prog) (coA n) [(moX N C).ob] (coE0 C h hN hn) [] 2000 (mpRN 4) [] (coNeed n N C 5) n (coV n C) BWF (fun β=>#[.pointer (some ⟨(β 5).b,0,none⟩)]) Tryz.func40 hmA Tryz.call294
  (rg:=coRg) (u:=1) (L:=6) (sl:=coSl) (ob:=fun k=>coOb n N C (coX C n k)) (ev:=ev) (σ0:=[0,0,1,2,11,12,3,4,5,6,7,8,9,10]) (σ:=fun _=>coS) (fun k=>decide (i≤k)) (co_pos C h hN hn) (fun β=>co_st C h hN hn β) (Nat.le_of_ble_eq_true rfl) (fun k _=>(by decide:6≤14)) (by kernel_rfl) (fun k _=>by kernel_rfl) (fun k _ β=>co_nd C N _ β)
  (fun β=>by kernel_rfl) (fun β β' e=>by rw [e 5 (by decide)]) (fun k hk hb β=>?_) (fun k hk hb hb2 β=>?_) (fun hb β=>?_) (co_iter C hN hn 5) (by kernel_rfl) (by kernel_rfl) β w (fun k o ho=>by
   cases k with
   | zero=>simp only [List.getElem?_cons_zero] at ho; obtain rfl:=Option.some.inj ho; exact hh
   | succ k=>simp at ho)
 · have hk2:k<i:=Nat.lt_of_not_le (of_decide_eq_false hb)
   rw [he1 k hk2]
   exact co_round C h N hk (hF k (by omega)) (hF (k+1) (by omega)) β
 · have h1:i≤k:=of_decide_eq_true hb
   have h2:¬ i<k:=fun e=>by have:=of_decide_eq_false (hb2 i e); omega
   obtain rfl:k=i:=by omega
   rw [he2]
   exact co_bad C h N hk (hF k (Nat.le_refl k)) hF2 β
 · have:=of_decide_eq_false (hb i hi)
   omega
noncomputable def sCoY (hF:MrFit (coQ C) n n):Spec Tryz.prog :=
 ⟨40,Tryz.call40,coA n,[moT N C],mpRY (coX C n n),[],fun β w hh=>(coY_ok C hN hn h hF β w (hh 0 _ rfl)).mono fun e w' h=>said_0 h fun β' _=>rfl,by kernel_rfl⟩
noncomputable def sCoN {i:Nat} (hi:i<n) (hF:MrFit (coQ C) n i) (hF2:¬ FitM (coX C n (i+1))):Spec Tryz.prog :=
 ⟨40,Tryz.call40,coA n,[moT N C],mpRN 4,[],fun β w hh=>(coN_ok C hN hn h hi hF hF2 β w (hh 0 _ rfl)).mono fun e w' h=>said_0 h fun β' _=>rfl,by kernel_rfl⟩
end
noncomputable def sCoNo {n N:Nat} (C:Nat→Mo) (hN:n≤N) (hn:n≤4096) {i:Nat} (hi:i<n) (h:(C i).B=false) (h2:∀ k,k<i→(C k).B=true):Spec Tryz.prog :=
 Spec.auto Tryz.call40 (coA n) [moT N C] (mpRN 2) [] [.eqv 13 (.bool (decide ((4096:Int)<(n:Int)))) (.bool false) (by rw [decide_eq_false (by omega)]),(sMoHasNo C hN (Nat.le_trans hn (by decide)) hi h h2).e] [] 800 Tryz.func40 hmA (by kernel_rfl) (fun β=>by kernel_rfl)
open Classical in
theorem mr_cases (Q:Nat→MQ) (n:Nat):∀ k,MrFit Q n k∨∃ i,i<k∧MrFit Q n i∧¬ FitM (mrow Q n (i+1))
 | 0=>.inl fun j h1=>by
  obtain rfl:j=0:=by omega
  exact fit_mid
 | k+1=>by
  rcases mr_cases Q n k with h | ⟨i,h1,h2,h3⟩
  · by_cases hF:FitM (mrow Q n (k+1))
    · refine .inl fun j h1=>?_
      rcases Nat.lt_succ_iff_lt_or_eq.1 (Nat.lt_succ_of_le h1) with h3 | rfl
      · exact h j (by omega)
      · exact hF
    · exact .inr ⟨k,Nat.lt_succ_self k,h,hF⟩
  · exact .inr ⟨i,by omega,h2,h3⟩
noncomputable abbrev rrF:Func:=Tryz.f43
abbrev rrNs:List (Nat × Nat):=[(5,6)]
section
variable {n:Nat} (C:Nat→Mo) (h:∀ i,i<n→(C i).B=true)
noncomputable abbrev rrN (n:Nat):Nat:=sizeS rrF (coA n)
abbrev rrSl (n:Nat) (z:Int):List (Nat × SV):=[(0,moS n),(2,.one (.c (.b (.p 2 0)))),(4,.one (.c (.b (.p 3 0)))),(5,.one (nI' z))]
noncomputable abbrev rrC (n:Nat) (C:Nat→Mo) (k:Nat) (z:Int) (ev:List (Ev Tryz.prog)):Cf Tryz.prog:=mkC Tryz.prog (rrN n) 1 (rrSl n z) [(moT n C).ob,.dead,.box mob0L MOB,.box (mC (coX C n k)) MOB] ev
abbrev rrH (n:Nat) (r:SV) (β0:Env) (w:World) (c:Cf Tryz.prog):Prop:=HdOk Tryz.prog 1 (rrN n) w.heap.size w β0 (bodyPost Tryz.prog rrF (Said Tryz.prog rrF 1 r [] β0 w)) c (lpAt rrF 0)
variable (r:SV) (β0:Env) (w:World)
noncomputable def rrCm {k:Nat} (hk:k<n) (hF:FitM (coX C n k)):Spec Tryz.prog :=
 (sR8Compose (m:=coQ C (n-1-k)) (n:=coX C n k) ((fitM_sz (co_may C h (n-1-k) (by omega)).1).mono (by decide)) ((fitM_sz hF).mono (by decide)) ((co_may C h (n-1-k) (by omega)).reg.beh (mrow_reg (co_may C h) k (by omega)))).as [.one (.a (moR C (n-1-k))),svM (coX C n k)] (svM (coX C n (k+1))) (by
  show [SV.one (.a (mCl (coQ C (n-1-k)))),svM (coX C n k)]=_
  rw [← (moQ_ok (h (n-1-k) (by omega))).2]) rfl
noncomputable def rrE {k:Nat} (hk:k<n) (hF:FitM (coX C n k)):List (Ev Tryz.prog):=[.eqv 11 (.bool (decide ((0:Int)≤((n-1-k:Nat):Int)))) (.bool true) (by rw [decide_eq_true (by omega)]),moIx C (j:=n-1-k) (n:=n) (by omega) (Nat.le_refl n),moLd (n:=n) (j:=n-1-k) C (by omega),(rrCm C h hk hF).e]
theorem rr_step {k:Nat} (hk:k<n) (hF:FitM (coX C n k)) (hF2:FitM (coX C n (k+1))) {z:Int} (hz:IntKind.i64.wrap (((n-1-k:Nat):Int)-1)=z) (kk:rrH n r β0 w (rrC n C (k+1) z [])) :
  rrH n r β0 w (rrC n C k ((n-1-k:Nat):Int) (rrE C h hk hF++[(sR8Fits (coX C n (k+1)) (b:=true) (iff_true_of hF2)).e,.eqv 13 (.int .i64 (IntKind.i64.wrap (((n-1-k:Nat):Int)-1))) (.int .i64 z) (by rw [hz]),.cut])) :=
 piece_ok (Ns:=rrNs) (m:=800) [] [0,0,2,3] hmA (by kernel_rfl) (fun β=>ok_of_maps (by kernel_rfl)) kk
theorem rr_bad {k:Nat} (hk:k<n) (hF:FitM (coX C n k)) (hF2:¬ FitM (coX C n (k+1))) :
  rrH n (mpRN 4) β0 w (rrC n C k ((n-1-k:Nat):Int) (rrE C h hk hF++[(sR8Fits (coX C n (k+1)) (b:=false) (iff_false_of hF2)).e])) :=
 last_ok (Ns:=rrNs) (m:=800) hmA (fun β=>ok_of_maps (by kernel_rfl))
theorem rr_end:rrH n (rpRY (coX C n n)) β0 w (rrC n C n (-1) [.eqv 11 (.bool (decide ((0:Int)≤(-1:Int)))) (.bool false) (by rw [decide_eq_false (by decide)])]) :=
 last_ok (Ns:=rrNs) (m:=800) hmA (fun β=>ok_of_maps (by kernel_rfl))
theorem rr_start (hn:n≤4096) (hh:(moT n C).D w (β0 0)) (kk:rrH n r β0 w (rrC n C 0 ((n:Int)-1) [])):Calls Tryz.prog 43 ((coA n).map (SV.den β0)).toArray w (Said Tryz.prog rrF 1 r [] β0 w) :=
 sx_cut (P:=Tryz.prog) (coA n) [(moT n C).ob] [sR8One.e,.eqv 9 (.int .i64 (IntKind.i64.wrap ((n:Int)-1))) (.int .i64 ((n:Int)-1)) (by rw [IntKind.wrap_i64]; congr 1; omega),.cut] [] rrNs 800 r [] Tryz.func43 hmA (u:=1) (sl:=rrSl n ((n:Int)-1)) (ob:=[(moT n C).ob,.dead,.box mob0L MOB,.box (mC (coX C n 0)) MOB]) (σ:=[0,0,1,2]) (p':=lpAt rrF 0) (by kernel_rfl) (fun β=>ok_of_maps (by kernel_rfl)) (by kernel_rfl) (by kernel_rfl) β0 w (fun i o ho=>by
  cases i with
  | zero=>simp only [List.getElem?_cons_zero] at ho; obtain rfl:=Option.some.inj ho; exact hh
  | succ i=>simp at ho) kk
include h in
theorem rr_run (hn:n≤4096) {t:Nat} (ht:t≤n) (hF:MrFit (coQ C) n t) (kk:rrH n r β0 w (rrC n C t ((n:Int)-1-(t:Int)) [])):∀ (d k:Nat),k+d=t→rrH n r β0 w (rrC n C k ((n:Int)-1-(k:Int)) [])
 | 0,k,e=>by
  obtain rfl:k=t:=by omega
  exact kk
 | d+1,k,e=>by
  have hz:(n:Int)-1-(k:Int)=((n-1-k:Nat):Int):=by omega
  rw [hz]
  exact hd_ev' (rr_step C h r β0 w (by omega) (hF k (by omega)) (hF (k+1) (by omega)) (z:=(n:Int)-1-((k+1:Nat):Int)) (by rw [IntKind.wrap_i64]<;>omega) (rr_run hn ht hF kk d (k+1) (by omega)))
noncomputable def sRRowY (hn:n≤4096) (hF:MrFit (coQ C) n n):Spec Tryz.prog :=
 ⟨43,Tryz.call43,coA n,[moT n C],rpRY (coX C n n),[],fun β w hh=>(rr_start C _ β w hn (hh 0 _ rfl) (by
  have:=rr_run C h (rpRY (coX C n n)) β w hn (Nat.le_refl n) hF (by
   rw [show (n:Int)-1-(n:Int) = -1 by omega]
   exact hd_ev' (rr_end C β w)) n 0 (by omega)
  rw [show (n:Int)-1-((0:Nat):Int)=(n:Int)-1 by omega] at this
  exact this)).mono fun e w' h=>said_0 h fun β' _=>rfl,by kernel_rfl⟩
noncomputable def sRRowN (hn:n≤4096) {i:Nat} (hi:i<n) (hF:MrFit (coQ C) n i) (hF2:¬ FitM (coX C n (i+1))):Spec Tryz.prog :=
 ⟨43,Tryz.call43,coA n,[moT n C],mpRN 4,[],fun β w hh=>(rr_start C _ β w hn (hh 0 _ rfl) (by
  have:=rr_run C h (mpRN 4) β w hn (Nat.le_of_lt hi) hF (by
   rw [show (n:Int)-1-(i:Int)=((n-1-i:Nat):Int) by omega]
   exact hd_ev' (rr_bad C h β w hi (hF i (Nat.le_refl i)) hF2)) i 0 (by omega)
  rw [show (n:Int)-1-((0:Nat):Int)=(n:Int)-1 by omega] at this
  exact this)).mono fun e w' h=>said_0 h fun β' _=>rfl,by kernel_rfl⟩
end
def PpFar (M:List Lf) (r:Bool):Prop:=∀ (β:Env) (w:World),(Ob.box M MOB).holds β w (β 0)→Calls Tryz.prog 25 (([.one (.c (.b (.s 0 0 1 1)))]:List SV).map (SV.den β)).toArray w fun e w'=>e=.returned (.bool r)∧Below w.heap.size w w'
def OrdS (q:MQ) (o:Int):Prop:=∀ (β:Env) (w:World),Calls Tryz.prog 28 (([.one (.a (mCl q))]:List SV).map (SV.den β)).toArray w fun e w'=>∃ xs:List Pl,freshS β w 0 xs∧e=.returned ((SV.tup [nI' o,nI' 0]).den (extE β 0 xs))∧newHold w' [] xs∧Below w.heap.size w w'
noncomputable def sPpIs {M:MQ} (hF:FitM M):Spec Tryz.prog:=(sIs8 M).as [.one (.a (mCl M)),.one (nI' 0),.one (.a (mC M)),.one (nI' 0)] (tB' true) (by
 show [SV.one (.a (maC M)),.one (nI' (maK M)),svM M,.one (nI' 0)]=_
 rw [(ma_fit hF).1,(ma_fit hF).2]) rfl
noncomputable def sPpBig:Spec Tryz.prog:=Spec.auto Tryz.call33 [.one (.a mob0L),.one (nI' 4),.one (.a mob0L),.one (nI' 4)] [] (tB' true) [] (sIs8c 4) [] 400 Tryz.func33 hmA (by kernel_rfl) (fun β=>by kernel_rfl)
section
variable {q:MQ} {n:Int} (h:PpFar (mCl q) false) (hq:MayQ q) (hc:∀ (β:Env) (w:World),Calls Tryz.prog 29 (([.one (.a (mCl q))]:List SV).map (SV.den β)).toArray w fun e w'=>∃ xs:List Pl,freshS β w 0 xs∧e=.returned ((SV.one (nI' 0)).den (extE β 0 xs))∧newHold w' [] xs∧Below w.heap.size w w')
 (hs:MSz 120 q) {o:Nat} (ho:OrdS q (o:Int)) (hf:FirstP q o)
end
end Go.Proofs.YtbepimnlleilfaaGreat.Y
end
