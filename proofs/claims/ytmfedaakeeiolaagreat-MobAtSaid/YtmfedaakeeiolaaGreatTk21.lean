/- Osp, GsB, CiA, GsT, G1, MtH, LsQ, LsF, Mcp, MaA, MaB, SyO. -/
import Derived.Test.YtmfedaakeeiolaaGreatTk20
set_option linter.unnecessarySimpa false
set_option linter.unusedVariables false
set_option linter.unusedSimpArgs false
section
namespace Go.Proofs.YtmfedaakeeiolaaGreat.Y
open Go Go.RowKit
set_option maxRecDepth 100000
def Ob.ren (ρ:Nat→Nat):Ob→Ob
 | .box cs t=>.box (cs.map (Lf.ren ρ)) t
 | x=>x
def ptrB:Option Lf→Bool
 | some (.b (.z _ _))=>true
 | some (.b (.p _ _))=>true
 | some (.b (.v (.string _)))=>true
 | _=>false
def Ob.plainB:Ob→Bool
 | .box cs _=>Nat.blt cs.length 4||ptrB cs[1]?
 | .th _=>true
 | _=>false
theorem Ob.holds_ren {β:Env} {w:World} {g:Pl} {ρ:Nat→Nat}:∀ {o:Ob},o.plainB=true→(o.ren ρ).holds β w g→o.holds (fun k=>β (ρ k)) w g
 | .box cs t,_,h=>⟨h.1,by
  rw [h.2,List.map_map]
  rw [show (Lf.den β ∘ Lf.ren ρ)=Lf.den (fun k=>β (ρ k)) from funext fun x=>Lf.den_ren β ρ x]⟩
 | .th _,_,h=>h
theorem Ob.holds_cg {q:Nat→Bool} {β β':Env} {w:World} {g:Pl} (hq:∀ k,q k=true→β k=β' k):∀ {o:Ob},o.plainB=true→o.of q=true→o.holds β w g→o.holds β' w g
 | .box cs t,_,h,k=>⟨k.1,by rw [k.2,all_congr h (Lf.den_congr hq)]⟩
 | .th _,_,_,k=>k
structure OSpec (P:Program) where
 f:FuncId
 en:Enters P f
 args:List SV
 obs:List Ob
 res:SV
 news:List Rat
 ok:∀ β w,(∀ (k:Nat) (o:Ob),obs[k]?=some o→o.holds β w (β k))→Calls P f (args.map (SV.den β)).toArray w fun e w'=>∃ xs:List Pl,(∀ x∈xs,∀ c,x.F c→w.heap.size≤c∨∃ i o,obs[i]?=some o∧o.isTh=true∧(β i).F c)∧e=.returned (res.den (extE β obs.length xs))∧newHold w' (news.map ratT) xs∧Below w.heap.size w w'
 closed:(args.all (SV.of fun k=>Nat.blt k obs.length)&&obs.all (fun x=>x.of (fun k=>Nat.blt k obs.length)&&x.plainB)&&res.of fun k=>Nat.blt k (obs.length+news.length))=true
def mtBox (o c:Ob):List (Nat × Nat):=match o,c with
 | .box xs _,.box ys _=>mtLs xs ys
 | _,_=>[]
def mtObs (obs ob:List Ob):List (Nat × Nat)→List (Nat × Nat)
 | []=>[]
 | (k,j)::r=>(match obs[k]?,ob[j]? with | some o,some c=>mtBox o c | _,_=>[])++mtObs obs ob r
def sigO {P:Program} (S:OSpec P) (xs:List SV) (ob:List Ob):List Nat:=sigL (mtVs S.args xs++mtObs S.obs ob (mtVs S.args xs)) 0 S.obs.length
def needsO (σ:List Nat) (ρ:Nat→Nat):List Ob→Nat→List (Nat × Ob)
 | [],_=>[]
 | o::r,k=>(lit (σ.getD k 0) fun j=>j,o.ren ρ)::needsO σ ρ r (k+1)
theorem needsO_at {σ:List Nat} {ρ:Nat→Nat}:∀ {l:List Ob} {i k:Nat} {o:Ob},l[k]?=some o→(σ.getD (i+k) 0,o.ren ρ)∈needsO σ ρ l i
 | x::r,i,0,o,h=>by
  simp only [List.getElem?_cons_zero] at h
  obtain rfl:=Option.some.inj h
  unfold needsO
  rw [lit_eq]
  exact List.mem_cons_self ..
 | x::r,i,k+1,o,h=>by
  have:=needsO_at (σ:=σ) (ρ:=ρ) (l:=r) (i:=i+1) (k:=k) (o:=o) (by simpa using h)
  rw [show i+(k+1)=i+1+k by omega]
  exact List.mem_cons_of_mem _ this
def OSpec.ev {P:Program} (S:OSpec P) (σ:List Nat) (n:Nat) (hσ:(Nat.ble S.obs.length σ.length&&σ.all fun k=>Nat.blt k n)=true):Ev P :=
 .call S.f S.en (fun β=>(S.args.map (SV.den fun k=>β (atS σ S.obs.length n k))).toArray) (needsO σ (atS σ S.obs.length n) S.obs 0) n (S.res.ren (atS σ S.obs.length n)) (S.news.map ratT) fun β w h=>by
  have hc:=S.closed
  simp only [Bool.and_eq_true] at hc
  have hat:∀ k,k<S.obs.length→atS σ S.obs.length n k=σ.getD k 0:=fun k hk=>by
   unfold atS
   rw [lit_eq,show Nat.blt k S.obs.length=true by rw [Nat.blt_eq]; exact hk,cond_true]
  have hat2:∀ k,¬ k<S.obs.length→atS σ S.obs.length n k=n+(k-S.obs.length):=fun k hk=>by
   unfold atS
   rw [lit_eq,show Nat.blt k S.obs.length=false by rw [Bool.eq_false_iff,ne_eq,Nat.blt_eq]; exact hk,cond_false]
  rw [Bool.and_eq_true,Nat.ble_eq] at hσ
  have hsn:∀ k,k<S.obs.length→σ.getD k 0<n:=fun k hk=>by
   rw [List.getD_eq_getElem?_getD]
   cases hx:σ[k]? with
   | none=>rw [List.getElem?_eq_none_iff] at hx; omega
   | some y=>have:=List.all_eq_true.1 hσ.2 y (List.mem_of_getElem? hx); rw [Nat.blt_eq] at this; exact this
  have hq:∀ k,Nat.blt k S.obs.length=true→β (atS σ S.obs.length n k)=β (σ.getD k 0):=fun k hk=>by rw [hat k (by simpa [Nat.blt_eq] using hk)]
  have hargs:S.args.map (SV.den fun k=>β (atS σ S.obs.length n k))=S.args.map (SV.den fun k=>β (σ.getD k 0)):=List.map_congr_left fun x hx=>SV.den_congr hq _ (List.all_eq_true.1 hc.1.1 x hx)
  rw [hargs]
  refine (S.ok (fun k=>β (σ.getD k 0)) w fun k o hk=>?_).mono ?_
  · have ho:=List.all_eq_true.1 hc.1.2 o (List.mem_of_getElem? hk)
    rw [Bool.and_eq_true] at ho
    have hlt:k<S.obs.length:=(List.getElem?_eq_some_iff.1 hk).1
    have h1:(o.ren (atS σ S.obs.length n)).holds β w (β (σ.getD k 0)):=by
     have:=h _ (needsO_at (i:=0) hk)
     rwa [Nat.zero_add] at this
    exact Ob.holds_cg hq ho.2 ho.1 (Ob.holds_ren ho.2 h1)
  · rintro e w' ⟨xs,h1,rfl,h3,h4⟩
    refine ⟨xs,fun x hx c hc2=>?_,?_,h3,h4⟩
    · rcases h1 x hx c hc2 with h5 | ⟨i,o,h5,h6,h7⟩
      · exact .inl h5
      · refine .inr ⟨_,needsO_at (i:=0) h5,?_,?_⟩
        · cases o<;>first | exact h6 | cases h6
        · rw [Nat.zero_add]; exact h7
    · rw [SV.den_ren]
      congr 1
      refine SV.den_congr (fun k hk=>?_) _ hc.2
      have hlen:=(newHold_get h3).1
      rw [List.length_map] at hlen
      rw [Nat.blt_eq] at hk
      by_cases hk2:k<S.obs.length
      · rw [hat k hk2,extE_out (β:=β) (n:=n) (k:=σ.getD k 0) (xs:=xs) (by have:=hsn k hk2; omega),extE_out (n:=S.obs.length) (k:=k) (xs:=xs) (by omega)]
      · rw [hat2 k hk2]
        have h5:k-S.obs.length<xs.length:=by omega
        rw [extE_in (List.getElem?_eq_getElem h5)]
        have:=extE_in (β:=fun k=>β (σ.getD k 0)) (n:=S.obs.length) (List.getElem?_eq_getElem h5)
        rw [show S.obs.length+(k-S.obs.length)=k by omega] at this
        exact this
def OSpec.e {P:Program} (S:OSpec P):Ev P:=.dyn (fun o _ _=>isCallB o) fun _ xs ob =>
 lits (sigO S xs ob) fun σ=>lit ob.length fun n=>if h:(Nat.ble S.obs.length σ.length&&σ.all fun k=>Nat.blt k n)=true then S.ev σ n h else .eqv 0 undef undef rfl
theorem ptr_no_rat {w:World} {b:Nat} {cs:Array Value} {t:TypeId} {x:Rat} {q:Option Addr} (h:w.heap[b]?=some (.cells cs t (0,0))) (hq:cs[1]?=some (.pointer q)) (k:RatAt w b 0 x):False:=by
 obtain ⟨A,m,cap,_,h1,_⟩:=k.2.1.open_
 have h2:=cell_lay (o:=1) h hq
 rw [Nat.zero_add,h2] at h1
 cases h1
theorem str1_no_rat {w:World} {b:Nat} {cs:Array Value} {t:TypeId} {x:Rat} {q:ByteArray} (h:w.heap[b]?=some (.cells cs t (0,0))) (hq:cs[1]?=some (.string q)) (k:RatAt w b 0 x):False:=by
 obtain ⟨A,m,cap,_,h1,_⟩:=k.2.1.open_
 have h2:=cell_lay (o:=1) h hq
 rw [Nat.zero_add,h2] at h1
 cases h1
theorem small_no_rat {w:World} {b:Nat} {cs:Array Value} {t:TypeId} {x:Rat} (h:w.heap[b]?=some (.cells cs t (0,0))) (hs:cs.size<4) (k:RatAt w b 0 x):False:=by
 obtain ⟨cs',t',h1,_,h2⟩:=k.1
 rw [h] at h1
 obtain ⟨rfl,_,_⟩:=Obj.cells.inj (Option.some.inj h1)
 omega
def idxO (P:Program) (fn:Func) (args:List SV) (obs:List Ob) (evs:List (Ev P)) (Ns:List (Nat × Nat)) (m:Nat) (res:SV):List (Nat × Nat) :=
 match fn.body with
 | some c=>match fullS P fn args obs evs Ns m c with
  | some f=>match run1 P obs.length false (results fn (tmpsS idE f.sl (sizeS fn args))) f.q f.ob [] with
   | some ⟨v,_,_,_⟩=>mtR res (tag v)
   | none=>[]
  | none=>[]
 | none=>[]
def specO (P:Program) (fn:Func) (args:List SV) (obs:List Ob) (evs:List (Ev P)) (Ns:List (Nat × Nat)) (m:Nat) (res:SV) (news:List Rat) (idx:List Nat) (β:Env):Eqs :=
 allS P fn args obs evs Ns m (res.ren (backS obs.length idx)) (idx.zip (news.map fun x=>(ratT x).ob)) β
def specOA (P:Program) (fn:Func) (args:List SV) (obs:List Ob) (evs:List (Ev P)) (Ns:List (Nat × Nat)) (m:Nat) (res:SV) (news:List Rat) (β:Env):Eqs :=
 lits (sigL (idxO P fn args obs evs Ns m res) obs.length news.length) fun idx=>specO P fn args obs evs Ns m res news idx β
theorem newHold_rats {β:Env} {w:World}:∀ {idx:List Nat} {l:List Rat},idx.length=l.length→holdsAll β w (idx.zip (l.map fun x=>(ratT x).ob))→newHold w (l.map ratT) (idx.map β)
 | [],[],_,_=>trivial
 | [],_::_,h,_=>by simp at h
 | _::_,[],h,_=>by simp at h
 | i::r,t::l,h,k=>⟨k (i,(ratT t).ob) (by simp),newHold_rats (by simpa using h) fun p hp=>k p (by simp only [List.map_cons,List.zip_cons_cons]; exact List.mem_cons_of_mem _ hp)⟩
theorem ospec_ok {P:Program} {f:FuncId} {fn:Func} {args:List SV} {obs:List Ob} {evs:List (Ev P)} {Ns:List (Nat × Nat)} {m:Nat} {res:SV} {news:List Rat} (hf:P.funcs[f]?=some fn) (hm:P.follows .mixedOrders=true)
  (h0:∀ β,(specOA P fn args obs evs Ns m res news β).map Prod.fst=(specOA P fn args obs evs Ns m res news β).map Prod.snd)
  (hB:(args.all (SV.of fun k=>Nat.blt k obs.length)&&obs.all (fun x=>x.of (fun k=>Nat.blt k obs.length)&&x.plainB)&&res.of fun k=>Nat.blt k (obs.length+news.length))=true)
  (β:Env) (w:World) (hh:∀ (k:Nat) (o:Ob),obs[k]?=some o→o.holds β w (β k)) :
  Calls P f (args.map (SV.den β)).toArray w fun e w'=>∃ xs:List Pl,(∀ x∈xs,∀ c,x.F c→w.heap.size≤c∨∃ i o,obs[i]?=some o∧o.isTh=true∧(β i).F c)∧e=.returned (res.den (extE β obs.length xs))∧newHold w' (news.map ratT) xs∧Below w.heap.size w w':=by
 obtain ⟨idx,hidx⟩:∃ idx,idx=sigL (idxO P fn args obs evs Ns m res) obs.length news.length:=⟨_,rfl⟩
 have hlen:idx.length=news.length:=by rw [hidx,sigL_len]
 have h:∀ β,(specO P fn args obs evs Ns m res news idx β).map Prod.fst=(specO P fn args obs evs Ns m res news idx β).map Prod.snd:=fun β=>by
  have:=h0 β
  unfold specOA at this
  rw [lits_eq,← hidx] at this
  exact this
 simp only [Bool.and_eq_true] at hB
 obtain ⟨⟨h1,h2⟩,h3⟩:=hB
 refine (sx (P:=P) args obs evs Ns m (res.ren (backS obs.length idx)) (idx.zip (news.map fun x=>(ratT x).ob)) hf hm (fun β=>ok_of_maps (h β)) h1
  (List.all_eq_true.2 fun x hx=>by
   have:=List.all_eq_true.1 h2 x hx
   rw [Bool.and_eq_true] at this ⊢
   refine ⟨this.1,?_⟩
   have h4:=this.2
   cases x<;>first | rfl | cases h4) β w hh).mono ?_
 rintro e w' ⟨β',q,obj,e1,rfl,e2,e4,e5,g⟩
 have hz:(idx.zip (news.map fun x=>(ratT x).ob)).map (fun p=>β' p.1)=idx.map β':=by
  rw [show (fun p:Nat × Ob=>β' p.1)=β' ∘ Prod.fst from rfl,← List.map_map,List.map_fst_zip (by rw [List.length_map]; omega)]
 refine ⟨idx.map β',fun x hx c hcF=>?_,?_,newHold_rats hlen e5,g.bel⟩
 · rw [← hz] at hx
   obtain ⟨p,hp,rfl⟩:=List.mem_map.1 hx
   rcases e4 p hp c hcF with h5 | ⟨i,h5,h6⟩
   · exact .inl h5
   · have ho:=List.getElem?_eq_getElem h5
     have hpl:=List.all_eq_true.1 h2 obs[i] (List.getElem_mem h5)
     rw [Bool.and_eq_true] at hpl
     have hho:=hh i _ ho
     generalize obs[i]=o at ho hpl hho
     cases o with
     | th D=>exact .inr ⟨i,_,ho,rfl,h6⟩
     | box cs t =>
      exfalso
      obtain ⟨hone,hheap⟩:=hho
      have hcb:=(hone.1 c).1 h6
      subst hcb
      obtain ⟨r,hr⟩:∃ r,p.2=(ratT r).ob:=by
       have:=(List.of_mem_zip hp).2
       obtain ⟨r,_,hr⟩:=List.mem_map.1 this
       exact ⟨r,hr.symm⟩
      have hD:=e5 p hp
      rw [hr] at hD
      obtain ⟨b,hb1,hb2⟩:PR r w' (β' p.1):=hD
      have hcb:=(hb1.2 _).1 hcF
      subst hcb
      have hw:w'.heap[(β i).b]?=some (.cells (cs.map (Lf.den β)).toArray t (0,0)):=by rw [g.bel.block _ (heap_lt hheap)]; exact hheap
      have:=hpl.2
      unfold Ob.plainB at this
      rw [Bool.or_eq_true,Nat.blt_eq] at this
      rcases this with this | this
      · exact small_no_rat hw (by simpa using this) hb2
      · have hq:(∃ q,(cs.map (Lf.den β))[1]?=some (.pointer q))∨∃ q,(cs.map (Lf.den β))[1]?=some (.string q):=by
         rw [List.getElem?_map]
         unfold ptrB at this
         split at this
         · rename_i k j e; rw [e]; exact .inl ⟨_,rfl⟩
         · rename_i k j e; rw [e]; exact .inl ⟨_,rfl⟩
         · rename_i k e; rw [e]; exact .inr ⟨_,rfl⟩
         · cases this
        rcases hq with ⟨q,hq⟩ | ⟨q,hq⟩
        · exact ptr_no_rat hw (by simpa using hq) hb2
        · exact str1_no_rat hw (by simpa using hq) hb2
     | al r D=>cases hpl.2
     | pl n=>cases hpl.2
     | row cs t n sz=>cases hpl.2
     | ow D t=>cases hpl.2
     | dead=>cases hpl.2
 · rw [SV.den_ren]
   congr 1
   refine SV.den_congr (fun k hk=>?_) _ h3
   rw [Nat.blt_eq] at hk
   unfold backS
   rw [lit_eq]
   by_cases hk2:k<obs.length
   · rw [show Nat.blt k obs.length=true by rw [Nat.blt_eq]; exact hk2,cond_true,extE_out (by omega)]
     exact e1 k hk2
   · rw [show Nat.blt k obs.length=false by rw [Bool.eq_false_iff,ne_eq,Nat.blt_eq]; exact hk2,cond_false]
     have h5:k-obs.length<idx.length:=by omega
     have:=extE_in (β:=β) (n:=obs.length) (xs:=idx.map β') (i:=k-obs.length) (x:=β' idx[k-obs.length]) (by simp [h5])
     rw [show obs.length+(k-obs.length)=k by omega] at this
     rw [this,List.getD_eq_getElem?_getD,List.getElem?_eq_getElem h5,Option.getD_some]
def OSpec.auto {P:Program} {f:FuncId} {fn:Func} (en:Enters P f) (args:List SV) (obs:List Ob) (res:SV) (news:List Rat) (evs:List (Ev P)) (Ns:List (Nat × Nat)) (m:Nat) (hf:P.funcs[f]?=some fn) (hm:P.follows .mixedOrders=true)
  (hB:(args.all (SV.of fun k=>Nat.blt k obs.length)&&obs.all (fun x=>x.of (fun k=>Nat.blt k obs.length)&&x.plainB)&&res.of fun k=>Nat.blt k (obs.length+news.length))=true)
  (h:∀ β,(specOA P fn args obs evs Ns m res news β).map Prod.fst=(specOA P fn args obs evs Ns m res news β).map Prod.snd):OSpec P :=
 ⟨f,en,args,obs,res,news,ospec_ok hf hm h hB,hB⟩
abbrev gnS (a:Gn):SV:=.one (.a (rL a.x++rL a.y))
theorem _root_.Go.Proofs.YtmfedaakeeiolaaGreat.FitG.gsz {z:GQ} (h:FitG z):GSz 1024 z:=⟨h.1.sz,h.2.sz⟩
theorem zero_div:(Rat.divInt 0 1:Rat)=0:=of_decide_eq_true (by kernel_rfl:decide ((Rat.divInt 0 1:Rat)=0)=true)
abbrev KC:Nat:=1000000
structure RQ where
 a:Rat
 b:GQ
 c:Rat
structure RSz (k:Nat) (r:RQ):Prop where
 a:Sz k r.a
 b:GSz k r.b
 c:Sz k r.c
def rbyQ (i j:Bool) (r:RQ):Rat:=bif i then (bif j then r.b.im else r.b.re) else r.a
section
variable {r:RQ} (h:RSz KC r) {i j:Bool} (hi:decide (r.a=0)=i) (hj:decide (r.b.re=0)=j) (h0:rbyQ i j r≠0)
include h hi hj h0
end
theorem f31:FitG (gint 3 (-1)):=fit_int (by decide) (by decide)
def sR4MayG (a:Gn) {r:Bool} (h:a.B=r):Spec Tryz.prog :=
 (sR4May a.gp.a.a a.gp.b.a).as [gnS a] (tB' r) (by
  show [SV.one (.a (a.gp.a.a.C++a.gp.b.a.C))]=[SV.one (.a (rL a.gp.a.r++rL a.gp.b.r))]
  rw [show a.gp.a.a.C=rL a.gp.a.r from a.gp.a.e,show a.gp.b.a.C=rL a.gp.b.r from a.gp.b.e]) (congrArg tB' (a.gpB.trans h))
abbrev PTT:TypeId:=52
abbrev TPs:TypeId:=61
theorem tps_u:Tryz.prog.underlying TPs=some (.slice (Tryz.prog.elem TPs)):=by kernel_rfl
theorem tps_s:(Tryz.prog.info? (Tryz.prog.elem TPs)).map (·.size)=some 9:=by kernel_rfl
theorem tpt_d:((Tryz.prog.underlying PTT).map fun d=>d.isRow)=some true:=by kernel_rfl
noncomputable def tptD:TypeDesc:=(Tryz.prog.underlying PTT).getD (.slice 0)
theorem tptD_u:Tryz.prog.underlying PTT=some tptD∧tptD.isRow=true:=by
 have h:=tpt_d
 unfold tptD
 cases h2:Tryz.prog.underlying PTT with
 | none=>rw [h2] at h; cases h
 | some d =>
  rw [h2] at h
  exact ⟨rfl,Option.some.inj h⟩
abbrev lsP (P:Nat→Pp) (j:Nat):List Lf:=lsX (P j).w.C
abbrev lpT (N:Nat) (P:Nat→Pp):Thing:=rwT 9 N (lsP P)
noncomputable def pLd {N j:Nat} (P:Nat→Pp) (hj:j<N):Ev Tryz.prog:=eLd tptD_u.1 tptD_u.2 9 (L:=lsP P) (by kernel_rfl) (fun β=>rfl) hj
noncomputable def pIx0 {n N j:Nat} (P:Nat→Pp) (hj:j<n) (hN:n≤N):Ev Tryz.prog:=eIx tps_u tps_s (lsP P) hj hN
theorem lpSome:(Tryz.prog.info? 52).isSome=true:=by kernel_rfl
noncomputable def lpApp:AppT Tryz.prog :=
 ⟨TPs,PTT,(Tryz.prog.info? 52).get lpSome,.agg #[.bool false,.bool false,.string ⟨#[]⟩,.bool false,.string ⟨#[]⟩,.bool false,.string ⟨#[]⟩,.bool false,.string ⟨#[]⟩],9,104,Tryz.underlying61,(Option.some_get lpSome).symm,by kernel_rfl,by kernel_rfl,by kernel_rfl,rfl,by decide,by decide⟩
theorem lp_one (r:Rw):∀ u∈(lsX r.C).map (Lf.den idE),u.oneCell'=true:=fun u hu=>by
 have e:(lsX r.C).map (Lf.den idE)=[.bool r.i,.bool r.x.b,.string r.x.s,.bool r.x.c,.string r.x.t,.bool r.y.b,.string r.y.s,.bool r.y.c,.string r.y.t]:=rfl
 rw [e] at hu
 simp only [List.mem_cons,List.not_mem_nil,or_false] at hu
 rcases hu with rfl | rfl | rfl | rfl | rfl | rfl | rfl | rfl | rfl<;>rfl
theorem lpOrL (P:Nat→Pp) {n:Nat} (hn:n≤10000):OrL lpApp (lsP P) n :=
 ⟨fun j _=>rfl,fun j _=>lp_one _,Nat.le_trans hn (by decide),Nat.le_trans (Nat.mul_le_mul_right _ hn) (by show 10000*104≤_; decide)⟩
noncomputable abbrev ixF:Func:=Tryz.f291
abbrev lpS0 (n:Nat):SV:=.one (.c (.b (.y 0 0 n)))
noncomputable def rwDesc (T:TypeId):TypeDesc:=(Tryz.prog.underlying T).getD (.slice 0)
theorem rwDesc_u {T:TypeId} (h:((Tryz.prog.underlying T).map fun d=>d.isRow)=some true):Tryz.prog.underlying T=some (rwDesc T)∧(rwDesc T).isRow=true:=by
 unfold rwDesc
 cases h2:Tryz.prog.underlying T with
 | none=>rw [h2] at h; cases h
 | some d =>
  rw [h2] at h
  exact ⟨rfl,Option.some.inj h⟩
noncomputable def faB (T:TypeId) (i off:Nat):Bool:=match Tryz.prog.underlying T with
 | some (.struct fs)=>match fs[i]? with
  | some f=>Nat.beq f.offset off&&match Tryz.prog.info? f.type with
   | some n=>!Nat.beq n.size 0
   | none=>false
  | none=>false
 | _=>false
theorem fa_run {T:TypeId} {i off:Nat} (h:faB T i off=true) (a:Addr) (w:World):(Instr.fieldAt T (.pointer (some a)) i).run Tryz.prog w=.ok (.pointer (some (a.add off))) w:=by
 unfold faB at h
 split at h
 · rename_i fs hu
   split at h
   · rename_i f hf
     rw [Bool.and_eq_true] at h
     obtain ⟨h1,h2⟩:=h
     split at h2
     · rename_i inf hi
       have hs:inf.size≠0:=by
        intro e
        rw [e] at h2
        cases h2
       obtain rfl:=Nat.eq_of_beq_eq_true h1
       simp [Instr.fieldAt,run_underlying hu,Instr.sureAddr,fieldPlace,sizeOf,typeInfo,hf,hi,hs]
     · cases h2
   · cases h
 · cases h
theorem rw_part {w:World} {b o k n:Nat} {cs:List Value} (h:w.rangeAt b o cs):w.rangeAt b (o+k) ((cs.drop k).take n):=fun i v hv=>by
 have h1:cs[k+i]?=some v:=by
  rw [List.getElem?_take] at hv
  split at hv
  · rw [List.getElem?_drop] at hv
    exact hv
  · cases hv
 have:=h (k+i) v h1
 rw [Nat.add_assoc]
 exact this
def eFa {T:TypeId} {sz I off n j:Nat} (L:Nat→List Lf) (hf:faB T I off=true) (hj:j<n):Ev Tryz.prog:=.dyn (fun o _ _=>match o.op with
 | .fieldAddr t _ i=>Nat.beq t T&&Nat.beq i I
 | _=>false) fun o xs _=>match o.op with
 | .fieldAddr _ x _=>lit (lsZOf (xs.getD 0 undefS)) fun k=>.rd (o.dst.getD 0) (.fieldAddr T x I) (fun β=>[.pointer ((β k).v (j*sz))]) [(k,(rwT sz n L).ob)] 0 (.one (.c (.b (.z k (j*sz+off))))) [] (fun β w h ρ o ho hx=>by
   have h1:RwD sz n L w (β k):=h _ (List.mem_singleton.2 rfl)
   have h3:ρ x=.pointer ((β k).v (j*sz)):=by simpa [Op.operands] using hx
   rcases h1 with h1 | ⟨h0,b,of,cs,t,fr,h1,h2,h4,h5⟩
   · omega
   refine ⟨[],w,(fun _ h=>by cases h),?_,trivial,Below.refl _ _⟩
   unfold execOp
   rw [ho]
   dsimp only
   have e:((SV.one (.c (.b (.z k (j*sz+off))))).den (extE β 0 []))=.pointer (some ((⟨b,of+j*sz,none⟩:Addr).add off)):=by
    show Value.pointer ((β k).v (j*sz+off))=_
    rw [h1,Addr.add_mid,Nat.add_assoc]
   have h6:=fa_run hf (⟨b,of+j*sz,none⟩:Addr) w
   rw [e,h3,h1]
   simp only [Sem.run_bind,h6,Result.andThen_ok]
   rfl)
 | _=>.cut
def ePt {T:TypeId} {d:TypeDesc} (hu:Tryz.prog.underlying T=some d) (hd:d.isRow=true) (sz off:Nat) {n j:Nat} {L:Nat→List Lf} {cs:List Lf} {m:Nat} (hc:((L j).drop off).take m=cs) (hs:(Tryz.prog.info? T).map (·.size)=some cs.length) (hL:∀ β,cs.map (Lf.den β)=cs.map (Lf.den idE)) (hj:j<n):Ev Tryz.prog:=.dyn (fun o xs _=>match o.op with
 | .load t _=>Nat.beq t T
 | _=>false) fun o xs _=>match o.op with
 | .load _ x=>lit (lsZOf (xs.getD 0 undefS)) fun k=>.rd (o.dst.getD 0) (.load T x) (fun β=>[.pointer ((β k).v (j*sz+off))]) [(k,(rwT sz n L).ob)] 0 (.one (.a cs)) [] (fun β w h ρ o ho hx=>by
   have h1:RwD sz n L w (β k):=h _ (List.mem_singleton.2 rfl)
   have h3:ρ x=.pointer ((β k).v (j*sz+off)):=by simpa [Op.operands] using hx
   rcases h1 with h1 | ⟨h0,b,of,cl,t,fr,h1,h2,h4,h5⟩
   · omega
   refine ⟨[],w,(fun _ h=>by cases h),?_,trivial,Below.refl _ _⟩
   unfold execOp
   rw [ho]
   dsimp only
   rw [h3,h1]
   have h7:w.rangeAt b (of+j*sz+off) (cs.map (Lf.den idE)):=by
    rw [← hc,List.map_take,List.map_drop]
    exact rw_part (h5 j hj)
   have h6:=run_loadAt_mid (P:=Tryz.prog) w b (of+j*sz+off) T (cs.map (Lf.den idE)) d h7 hu hd (by rw [List.length_map]; exact hs)
   have e:((SV.one (.a cs)).den (extE β 0 []))=.agg (cs.map (Lf.den idE)).toArray:=by
    show Value.agg (cs.map (Lf.den (extE β 0 []))).toArray=_
    rw [hL]
   rw [e]
   rw [Nat.add_assoc] at h6
   simp only [Sem.run_bind,h6,Result.andThen_ok]
   rfl)
 | _=>.cut
def eSlG {T:TypeId} (hu:Tryz.prog.underlying T=some (.slice (Tryz.prog.elem T))) {sz:Nat} (hs:(Tryz.prog.info? (Tryz.prog.elem T)).map (·.size)=some sz) {N l n:Nat} (hN:n≤N) (e:TypeId) (L:Nat→List Lf):Ev Tryz.prog:=.dyn (fun o _ _=>match o.op with
 | .slice t _ none (some _) none=>Nat.beq t T
 | _=>false) fun o xs _=>match o.op with
 | .slice _ x none (some y) none=>lit (lsKOf (xs.getD 0 undefS)) fun k=>.rd (o.dst.getD 0) (.slice T x none (some y) none) (fun β=>[.slice ((β k).v 0) l ((β k).c 0),.int .i64 (n:Int)]) [(k,.th (orT sz e N L))] 0 (.one (.c (.b (.y k 0 n)))) [] (fun β w h ρ o ho hx=>by
   have h3:ρ x=.slice ((β k).v 0) l ((β k).c 0)∧ρ y=.int .i64 (n:Int):=by simpa [Op.operands] using hx
   have hd:OrD sz e N L w (β k):=h (k,.th (orT sz e N L)) (List.mem_singleton.2 rfl)
   obtain ⟨cur,_,h1,_⟩:=hd.cells
   refine ⟨[],w,(fun _ h=>by cases h),?_,trivial,Below.refl _ _⟩
   have hz:((sizeOf (Tryz.prog.elem T)).run Tryz.prog w)=.ok sz w:=by
    cases hq:Tryz.prog.info? (Tryz.prog.elem T) with
    | none=>simp [hq] at hs
    | some i =>
     have hs:i.size=sz:=by simpa [hq] using hs
     simp [sizeOf,typeInfo,hq,hs]
   have h6:=run_slice_h (P:=Tryz.prog) (w:=w) T ((β k).v 0) l ((β k).c 0) hu .i64 (n:Int) (by omega) (by omega)
   rw [hz] at h6
   have e:((SV.one (.c (.b (.y k 0 n)))).den (extE β 0 []))=.slice ((β k).v 0) n ((β k).c 0):=rfl
   rw [e]
   unfold execOp
   rw [ho]
   dsimp only
   simp only [Option.map_none,Option.map_some,h3.1,h3.2]
   have h7:(Instr.sliceAt T (.slice ((β k).v 0) l ((β k).c 0)) none (some (.int .i64 (n:Int))) none).run Tryz.prog w=.ok (.slice ((β k).v 0) n ((β k).c 0)) w:=by
    rw [run_sliceAt_slice (P:=Tryz.prog) (w:=w) T _ _ _ _ hu,h6,hd.2.1 0]
    simp [sliced,Addr.add]
   simp only [Sem.run_bind,h7,Result.andThen_ok]
   rfl)
 | _=>.cut
end Go.Proofs.YtmfedaakeeiolaaGreat.Y
end
section
namespace Go.Proofs.YtmfedaakeeiolaaGreat
open Go Go.RowKit
set_option maxRecDepth 100000
end Go.Proofs.YtmfedaakeeiolaaGreat
namespace Go.Proofs.YtmfedaakeeiolaaGreat.Y
open Go Go.RowKit
set_option maxRecDepth 100000
abbrev mcI (k:Int):SC:=.c (.b (.v (.int .i64 k)))
abbrev MOB:TypeId:=39
def sMbChk {q:MQ} (h:MayQ q):Spec Tryz.prog :=
 Spec.auto Tryz.call59 [.one (.a (mCl q))] [] (.one (mcI 0)) [] [(sOpenYes h).e] [] 400 Tryz.func59 hmA (by kernel_rfl) (fun β=>by kernel_rfl)
def sMbChkNo {m:Mp} {t:Bool} (h:OpenNo m t):Spec Tryz.prog :=
 Spec.auto Tryz.call59 [.one (.a m.C)] [] (.one (mcI 2)) [] [(sOpenNo h).e] [] 400 Tryz.func59 hmA (by kernel_rfl) (fun β=>by kernel_rfl)
section
variable {m q:MQ} (hm:MayQ m) (hq:MayQ q)
include hm hq
end
end Go.Proofs.YtmfedaakeeiolaaGreat.Y
end
section
namespace Go.Proofs.YtmfedaakeeiolaaGreat.Y
open Go Go.RowKit
set_option maxRecDepth 100000
abbrev maM (x0 y0 x1 y1 x2 y2 x3 y3:R4) (t:Bool):List Lf:=rL x0++rL y0++rL x1++rL y1++rL x2++rL y2++rL x3++rL y3++[.b (.v (.bool t))]
theorem mw_sub0 {z w:GQ}:gzero (gsub z w)=true↔z=w:=by
 rw [gzero_iff]
 constructor
 · rintro ⟨h1,h2⟩
   simp only [gsub] at h1 h2
   exact GQ.ext2 (by grind) (by grind)
 · rintro rfl
   simp only [gsub]
   exact ⟨by grind,by grind⟩
abbrev mgL (a b c d:Gn) (t:Bool):List Lf:=rL a.x++rL a.y++rL b.x++rL b.y++rL c.x++rL c.y++rL d.x++rL d.y++[.b (.v (.bool t))]
abbrev mgS (a b c d:Gn) (t:Bool):SV:=.one (.a (mgL a b c d t))
def gB (z w:GQ):Bool:=(fR z.re).eq (fR w.re)&&((fR z.im).eq (fR w.im)&&true)
theorem gB_iff {z w:GQ}:gB z w=true↔z=w:=by
 unfold gB
 simp only [Bool.and_true,Bool.and_eq_true,R4.eq_iff]
 constructor
 · rintro ⟨h1,h2⟩
   exact GQ.ext2 (fR_inj h1) (fR_inj h2)
 · rintro rfl
   exact ⟨rfl,rfl⟩
def gEq (z w:GQ) {r:Bool} (h:gB z w=r):Ev Tryz.prog:=eqEvG (fR z.re) (fR z.im) (fR w.re) (fR w.im) r h
abbrev g1':GQ:=gint 1 0
abbrev g0':GQ:=gint 0 0
def CkV (a b c d:Gn) (t:Bool) (k:Int):Prop:=∀ (β:Env) (w:World),Calls Tryz.prog 26 (([mgS a b c d t]:List SV).map (SV.den β)).toArray w fun e w'=>∃ xs:List Pl,freshS β w 0 xs∧e=.returned ((SV.one (nI' k)).den (extE β 0 xs))∧newHold w' [] xs∧Below w.heap.size w w'
def sR8Ck {a b c d:Gn} {t:Bool} {k:Int} (h:CkV a b c d t k):Spec Tryz.prog :=
 ⟨26,Tryz.call26,[mgS a b c d t],[],.one (nI' k),[],fun β w _=>h β w,by kernel_rfl⟩
theorem mw_no (β:Env) (w:World):∀ (k:Nat) (t:Thing),([]:List Thing)[k]?=some t→t.D w (β k):=fun k t h=>by simp at h
theorem ck_no {a b c d:Gn} {t:Bool} (h:(a.B&&(b.B&&(c.B&&d.B)))=false):CkV a b c d t 2:=fun β w=>by
 cases h1:a.B with
 | false=>exact spec_auto (args:=[mgS a b c d t]) (obs:=[]) (res:=.one (nI' 2)) (news:=[]) (evs:=[(sR4MayG a h1).e]) (Ns:=[(3,21)]) (m:=800) Tryz.func26 hmA (fun β=>by kernel_rfl) (by kernel_rfl) β w (mw_no β w)
 | true=>cases h2:b.B with
  | false=>exact spec_auto (args:=[mgS a b c d t]) (obs:=[]) (res:=.one (nI' 2)) (news:=[]) (evs:=[(sR4MayG a h1).e,(sR4MayG b h2).e]) (Ns:=[(3,21)]) (m:=800) Tryz.func26 hmA (fun β=>by kernel_rfl) (by kernel_rfl) β w (mw_no β w)
  | true=>cases h3:c.B with
   | false=>exact spec_auto (args:=[mgS a b c d t]) (obs:=[]) (res:=.one (nI' 2)) (news:=[]) (evs:=[(sR4MayG a h1).e,(sR4MayG b h2).e,(sR4MayG c h3).e]) (Ns:=[(3,21)]) (m:=800) Tryz.func26 hmA (fun β=>by kernel_rfl) (by kernel_rfl) β w (mw_no β w)
   | true=>cases h4:d.B with
    | false=>exact spec_auto (args:=[mgS a b c d t]) (obs:=[]) (res:=.one (nI' 2)) (news:=[]) (evs:=[(sR4MayG a h1).e,(sR4MayG b h2).e,(sR4MayG c h3).e,(sR4MayG d h4).e]) (Ns:=[(3,21)]) (m:=800) Tryz.func26 hmA (fun β=>by kernel_rfl) (by kernel_rfl) β w (mw_no β w)
    | true=>rw [h1,h2,h3,h4] at h; cases h
section
variable (q:MQ) (h:FitM q)
abbrev ckGs (q:MQ) (h:FitM q) (k:Int):Prop:=CkV (.ok q.a h.1) (.ok q.b h.2.1) (.ok q.c h.2.2.1) (.ok q.d h.2.2.2) q.t k
noncomputable def ckM:List (Ev Tryz.prog):=[(sR4MayG (.ok q.a h.1) rfl).e,(sR4MayG (.ok q.b h.2.1) rfl).e,(sR4MayG (.ok q.c h.2.2.1) rfl).e,(sR4MayG (.ok q.d h.2.2.2) rfl).e,sR8unit.e]
theorem ckq_sz {q:MQ} (h:FitM q):MSz KD q:=⟨h.1.gsz.mono (by decide),h.2.1.gsz.mono (by decide),h.2.2.1.gsz.mono (by decide),h.2.2.2.gsz.mono (by decide)⟩
noncomputable def ckZ {b:Bool} (hd:gzero (mdet q)=b):List (Ev Tryz.prog):=[(sR8Det (ckq_sz h)).e,(sR4Zero (mdet q) hd).e]
theorem ck_q:(MayQ q∧ckGs q h 0)∨ckGs q h 2:=by
 cases r1:gB q.c g1' with
 | true =>
  cases hd:gzero (mdet q) with
  | false =>
   refine .inl ⟨⟨h,hd,.inl (mw_sub0.2 (gB_iff.1 r1))⟩,fun β w=>?_⟩
   exact spec_auto (evs:=ckM q h++[gEq q.c g1' r1]++ckZ q h hd) (Ns:=[(3,21)]) (m:=800) Tryz.func26 hmA (fun β=>by kernel_rfl) (by kernel_rfl) β w (mw_no β w)
  | true =>
   refine .inr fun β w=>?_
   exact spec_auto (evs:=ckM q h++[gEq q.c g1' r1]++ckZ q h hd) (Ns:=[(3,21)]) (m:=800) Tryz.func26 hmA (fun β=>by kernel_rfl) (by kernel_rfl) β w (mw_no β w)
 | false =>
  cases r2:gB q.c g0' with
  | false =>
   refine .inr fun β w=>?_
   exact spec_auto (evs:=ckM q h++[gEq q.c g1' r1,sR8zero.e,gEq q.c g0' r2]) (Ns:=[(3,21)]) (m:=800) Tryz.func26 hmA (fun β=>by kernel_rfl) (by kernel_rfl) β w (mw_no β w)
  | true =>
   cases r3:gB q.d g1' with
   | false =>
    refine .inr fun β w=>?_
    exact spec_auto (evs:=ckM q h++[gEq q.c g1' r1,sR8zero.e,gEq q.c g0' r2,sR8unit.e,gEq q.d g1' r3]) (Ns:=[(3,21)]) (m:=800) Tryz.func26 hmA (fun β=>by kernel_rfl) (by kernel_rfl) β w (mw_no β w)
   | true =>
    cases hd:gzero (mdet q) with
    | false =>
     have z0:gzero q.c=true:=by rw [gB_iff.1 r2]; rfl
     refine .inl ⟨⟨h,hd,.inr ⟨z0,mw_sub0.2 (gB_iff.1 r3)⟩⟩,fun β w=>?_⟩
     exact spec_auto (evs:=ckM q h++[gEq q.c g1' r1,sR8zero.e,gEq q.c g0' r2,sR8unit.e,gEq q.d g1' r3]++ckZ q h hd) (Ns:=[(3,21)]) (m:=800) Tryz.func26 hmA (fun β=>by kernel_rfl) (by kernel_rfl) β w (mw_no β w)
    | true =>
     refine .inr fun β w=>?_
     exact spec_auto (evs:=ckM q h++[gEq q.c g1' r1,sR8zero.e,gEq q.c g0' r2,sR8unit.e,gEq q.d g1' r3]++ckZ q h hd) (Ns:=[(3,21)]) (m:=800) Tryz.func26 hmA (fun β=>by kernel_rfl) (by kernel_rfl) β w (mw_no β w)
end
theorem ck_may {q:MQ} (h:MayQ q):ckGs q h.1 0:=fun β w=>by
 have hd:=h.2.1
 cases r1:gB q.c g1' with
 | true=>exact spec_auto (evs:=ckM q h.1++[gEq q.c g1' r1]++ckZ q h.1 hd) (Ns:=[(3,21)]) (m:=800) Tryz.func26 hmA (fun β=>by kernel_rfl) (by kernel_rfl) β w (mw_no β w)
 | false =>
  rcases h.2.2 with h1 | ⟨h1,h2⟩
  · rw [gB_iff.2 (mw_sub0.1 h1)] at r1
    cases r1
  · have r2:gB q.c g0'=true:=gB_iff.2 (by
     rw [gz_true] at h1
     rw [h1]
     kernel_rfl)
    have r3:gB q.d g1'=true:=gB_iff.2 (mw_sub0.1 h2)
    exact spec_auto (evs:=ckM q h.1++[gEq q.c g1' r1,sR8zero.e,gEq q.c g0' r2,sR8unit.e,gEq q.d g1' r3]++ckZ q h.1 hd) (Ns:=[(3,21)]) (m:=800) Tryz.func26 hmA (fun β=>by kernel_rfl) (by kernel_rfl) β w (mw_no β w)
def CkMp (m:Mp) (k:Int):Prop:=∀ (β:Env) (w:World),Calls Tryz.prog 26 (([.one (.a m.C)]:List SV).map (SV.den β)).toArray w fun e w'=>∃ xs:List Pl,freshS β w 0 xs∧e=.returned ((SV.one (nI' k)).den (extE β 0 xs))∧newHold w' [] xs∧Below w.heap.size w w'
def sCkMp {m:Mp} {k:Int} (h:CkMp m k):Spec Tryz.prog :=
 ⟨26,Tryz.call26,[.one (.a m.C)],[],.one (nI' k),[],fun β w _=>h β w,by kernel_rfl⟩
abbrev r4k (x:R4):Prop:=x.s.size≤maxLen∧x.t.size≤maxLen
theorem map_all (x0 y0 x1 y1 x2 y2 x3 y3:R4) (t:Bool) (h0:r4k x0) (k0:r4k y0) (h1:r4k x1) (k1:r4k y1) (h2:r4k x2) (k2:r4k y2) (h3:r4k x3) (k3:r4k y3) :
  ∃ m:Mp,m.C=maM x0 y0 x1 y1 x2 y2 x3 y3 t∧((∃ q,MayQ q∧m.C=mCl q)∨(∃ t,OpenNo m t)∧CkMp m 2):=by
 obtain ⟨a0,e0⟩:=fr_of x0 h0
 obtain ⟨b0,f0⟩:=fr_of y0 k0
 obtain ⟨a1,e1⟩:=fr_of x1 h1
 obtain ⟨b1,f1⟩:=fr_of y1 k1
 obtain ⟨a2,e2⟩:=fr_of x2 h2
 obtain ⟨b2,f2⟩:=fr_of y2 k2
 obtain ⟨a3,e3⟩:=fr_of x3 h3
 obtain ⟨b3,f3⟩:=fr_of y3 k3
 have hC:(⟨a0,b0,a1,b1,a2,b2,a3,b3,t⟩:Mp).C=maM x0 y0 x1 y1 x2 y2 x3 y3 t:=by
  unfold Mp.C
  dsimp only
  rw [e0,f0,e1,f1,e2,f2,e3,f3]
 refine ⟨⟨a0,b0,a1,b1,a2,b2,a3,b3,t⟩,hC,?_⟩
 have two:∀ {a b c d:Gn},mgL a b c d t=maM x0 y0 x1 y1 x2 y2 x3 y3 t→CkV a b c d t 2→((∃ q,MayQ q∧(⟨a0,b0,a1,b1,a2,b2,a3,b3,t⟩:Mp).C=mCl q)∨(∃ u,OpenNo ⟨a0,b0,a1,b1,a2,b2,a3,b3,t⟩ u)∧CkMp ⟨a0,b0,a1,b1,a2,b2,a3,b3,t⟩ 2):=fun {a b c d} e hk=>by
  rcases open_all ⟨a0,b0,a1,b1,a2,b2,a3,b3,t⟩ with h | h
  · exact .inl h
  · refine .inr ⟨h,fun β w=>?_⟩
    have:=hk β w
    rw [hC,← e]
    exact this
 obtain ⟨a,rfl,rfl⟩:=gn_of x0 y0 h0 k0
 obtain ⟨b,rfl,rfl⟩:=gn_of x1 y1 h1 k1
 obtain ⟨c,rfl,rfl⟩:=gn_of x2 y2 h2 k2
 obtain ⟨d,rfl,rfl⟩:=gn_of x3 y3 h3 k3
 cases h:(a.B&&(b.B&&(c.B&&d.B))) with
 | false=>exact two rfl (ck_no h)
 | true =>
  cases a with
  | no=>cases h
  | ok za ha=>cases b with
   | no=>cases h
   | ok zb hb=>cases c with
    | no=>cases h
    | ok zc hc=>cases d with
     | no=>cases h
     | ok zd hd =>
      rcases ck_q ⟨za,zb,zc,zd,t⟩ ⟨ha,hb,hc,hd⟩ with ⟨hm,_⟩ | hk
      · exact .inl ⟨_,hm,hC⟩
      · exact two rfl hk
theorem maFar_ok (a b c d:Gn) (t:Bool) {r:Bool} (h:Lg4 a b c d r) (β:Env) (w:World) (hh:(Ob.box (mgL a b c d t) MOB).holds β w (β 0)) :
  Calls Tryz.prog 22 (([.one (.c (.b (.s 0 0 1 1)))]:List SV).map (SV.den β)).toArray w fun e w'=>e=.returned (.bool r)∧Below w.heap.size w w':=by
 cases r<;>exact bspec_ok [(sLong4 37 a b c d h).e] [(4,22)] 1200 Tryz.func22 hmA (fun β=>by kernel_rfl) (by kernel_rfl) (fun β=>rfl) β w hh
noncomputable abbrev ofF:Func:=Tryz.f31
theorem tgg_d:((Tryz.prog.underlying 37).map fun d=>d.isRow)=some true:=by kernel_rfl
noncomputable def maFz {n j:Nat} (P:Nat→Pp) (hj:j<n):Ev Tryz.prog:=eFa (T:=PTT) (sz:=9) (I:=1) (off:=1) (lsP P) (by kernel_rfl) hj
noncomputable def maPz {n j:Nat} (P:Nat→Pp) (hj:j<n):Ev Tryz.prog:=ePt (rwDesc_u tgg_d).1 (rwDesc_u tgg_d).2 9 1 (L:=lsP P) (cs:=(P j).w.x.L++(P j).w.y.L) (m:=8) rfl (by kernel_rfl) (fun β=>rfl) hj
section
variable (n:Nat) (P:Nat→Pp)
noncomputable abbrev oFN:Nat:=sizeS ofF [lpS0 n]
abbrev oFSl (j:Nat):List (Nat × SV):=[(0,lpS0 n),(2,.one (.c (.b (.v (.bool false))))),(3,.one (nI' (j:Int)))]
noncomputable abbrev oFC (j:Nat) (ev:List (Ev Tryz.prog)):Cf Tryz.prog:=mkC Tryz.prog (oFN n) 1 (oFSl n j) [(lpT n P).ob,.dead] ev
abbrev oFH (r:Bool) (β0:Env) (w:World) (c:Cf Tryz.prog):Prop:=HdOk Tryz.prog 1 (oFN n) w.heap.size w β0 (bodyPost Tryz.prog ofF (Said Tryz.prog ofF 1 (tB' r) [] β0 w)) c (lpAt ofF 0)
variable (β0:Env) (w:World) {j:Nat}
noncomputable def oFE (hj:j<n):List (Ev Tryz.prog):=[.eqv 7 (.bool (decide ((j:Int)<(n:Int)))) (.bool true) (by rw [decide_eq_true (by omega)]),pIx0 P hj (Nat.le_refl n),maFz P hj,maPz P hj]
theorem of_step (hj:j<n) (h:Lg (P j).w.x (P j).w.y false) {j2:Int} (hj2:IntKind.i64.wrap ((j:Int)+1)=j2) (e2:j2=((j+1:Nat):Int)) (r:Bool) (k:oFH n r β0 w (oFC n P (j+1) [])) :
  oFH n r β0 w (oFC n P j (oFE n P hj++[(sLong (P j).w.x (P j).w.y h).e,.eqv 9 (.int .i64 (IntKind.i64.wrap ((j:Int)+1))) (.int .i64 ((j+1:Nat):Int)) (by rw [hj2,e2]),.cut])) :=
 piece_ok (Ns:=[]) (m:=800) [] [0,0] hmA (by kernel_rfl) (fun β=>ok_of_maps (by kernel_rfl)) k
theorem of_yes (hj:j<n) (h:Lg (P j).w.x (P j).w.y true):oFH n true β0 w (oFC n P j (oFE n P hj++[(sLong (P j).w.x (P j).w.y h).e])) :=
 last_ok (Ns:=[]) (m:=800) hmA (fun β=>ok_of_maps (by kernel_rfl))
theorem of_end:oFH n false β0 w (oFC n P n [.eqv 7 (.bool (decide ((n:Int)<(n:Int)))) (.bool false) (by rw [decide_eq_false (by omega)])]) :=
 last_ok (Ns:=[]) (m:=400) hmA (fun β=>ok_of_maps (by kernel_rfl))
theorem of_loopY (hn:n≤maxLen) {i:Nat} (hi:i<n) (h:Lg (P i).w.x (P i).w.y true) (h2:∀ k,k<i→Lg (P k).w.x (P k).w.y false):∀ (d j:Nat),j+d=i→oFH n true β0 w (oFC n P j [])
 | 0,j,e=>by
  obtain rfl:j=i:=by omega
  exact hd_ev' (of_yes n P β0 w hi h)
 | d+1,j,e=>hd_ev' (of_step n P β0 w (by omega) (h2 j (by omega)) (j2:=((j+1:Nat):Int)) (by rw [IntKind.wrap_i64]; simp only [maxLen] at hn; omega) rfl true (of_loopY hn hi h h2 d (j+1) (by omega)))
theorem of_loopN (hn:n≤maxLen) (h:∀ i,i<n→Lg (P i).w.x (P i).w.y false):∀ (d j:Nat),j+d=n→oFH n false β0 w (oFC n P j [])
 | 0,j,e=>by
  obtain rfl:j=n:=by omega
  exact hd_ev' (of_end j P β0 w)
 | d+1,j,e=>hd_ev' (of_step n P β0 w (by omega) (h j (by omega)) (j2:=((j+1:Nat):Int)) (by rw [IntKind.wrap_i64]; simp only [maxLen] at hn; omega) rfl false (of_loopN hn h d (j+1) (by omega)))
theorem of_start (r:Bool) (hh:(lpT n P).D w (β0 0)) (h:oFH n r β0 w (oFC n P 0 [])):Calls Tryz.prog 31 (([lpS0 n]:List SV).map (SV.den β0)).toArray w (Said Tryz.prog ofF 1 (tB' r) [] β0 w) :=
 sx_cut (P:=Tryz.prog) [lpS0 n] [(lpT n P).ob] [.cut] [] [] 400 (tB' r) [] Tryz.func31 hmA (u:=1) (sl:=oFSl n 0) (ob:=[(lpT n P).ob,.dead]) (σ:=[0,0]) (p':=lpAt ofF 0) (by kernel_rfl) (fun β=>ok_of_maps (by kernel_rfl)) (by kernel_rfl) (by kernel_rfl) β0 w (fun i o ho=>by
  cases i with
  | zero=>simp only [List.getElem?_cons_zero] at ho; obtain rfl:=Option.some.inj ho; exact hh
  | succ i=>simp at ho) h
end
theorem ma_first {f:Nat→Bool} {n:Nat} (h:∃ i,i<n∧f i=true):∃ i,i<n∧f i=true∧∀ k,k<i→f k=false:=by
 induction n with
 | zero=>obtain ⟨i,hi,_⟩:=h; exact absurd hi (Nat.not_lt_zero i)
 | succ n ih =>
  by_cases h3:∃ i,i<n∧f i=true
  · obtain ⟨i,k1,k2,k3⟩:=ih h3
    exact ⟨i,by omega,k2,k3⟩
  · obtain ⟨i,hi,hf⟩:=h
    have e:i=n:=by
     rcases Nat.lt_succ_iff_lt_or_eq.1 hi with h4 | h4
     · exact absurd ⟨i,h4,hf⟩ h3
     · exact h4
    subst e
    exact ⟨i,hi,hf,fun k hk=>by
     rw [Bool.eq_false_iff]
     intro e
     exact h3 ⟨k,hk,e⟩⟩
def MaOff (n:Nat) (P:Nat→Pp) (r:Bool):Prop:=∀ (β0:Env) (w:World),(lpT n P).D w (β0 0)→Calls Tryz.prog 31 (([lpS0 n]:List SV).map (SV.den β0)).toArray w (Said Tryz.prog ofF 1 (tB' r) [] β0 w)
noncomputable def sMaOff {n:Nat} {P:Nat→Pp} {r:Bool} (h:MaOff n P r):Spec Tryz.prog :=
 ⟨31,Tryz.call31,[lpS0 n],[lpT n P],tB' r,[],fun β w hh=>(h β w (hh 0 _ rfl)).mono fun e w' h=>said_0 h fun β' _=>rfl,by kernel_rfl⟩
theorem off_all {n:Nat} (P:Nat→Pp) (hn:n≤maxLen):∃ r,MaOff n P r:=by
 have hW:∀ i,∃ r,Lg (P i).w.x (P i).w.y r:=fun i=>Lg.all _ _
 obtain ⟨f,hf⟩:∃ f:Nat→Bool,∀ i,Lg (P i).w.x (P i).w.y (f i):=⟨fun i=>(hW i).choose,fun i=>(hW i).choose_spec⟩
 by_cases h:∃ i,i<n∧f i=true
 · obtain ⟨i,h1,h2,h3⟩:=ma_first h
   exact ⟨true,fun β0 w hh=>of_start n P β0 w true hh (of_loopY n P β0 w hn h1 (by rw [← h2]; exact hf i) (fun k hk=>by rw [← h3 k hk]; exact hf k) i 0 (by omega))⟩
 · exact ⟨false,fun β0 w hh=>of_start n P β0 w false hh (of_loopN n P β0 w hn (fun i hi=>by
    have:=hf i
    cases e:f i with
    | true=>exact absurd ⟨i,hi,e⟩ h
    | false=>rw [e] at this; exact this) n 0 (by omega))⟩
noncomputable abbrev maG (z:GQ):SV:=.tup [.a (lsX (gaC z)),nI' (gaK z)]
noncomputable abbrev maPc (p:Pt):List Lf:=lsX (rawC (paI p) (paX p) (paY p))
noncomputable abbrev maP0' (p:Pt):SV:=.tup [.a (lsX (paC p)),nI' (paK p)]
noncomputable abbrev maP (p:Pt):SV:=.tup [.a (maPc p),nI' (paK p)]
theorem maP_eq (p:Pt):maP0' p=maP p:=by rw [maP0',paC_raw]
section
variable {q:MQ} (h:MayQ q)
theorem ma_ksz {q:MQ} (h:MayQ q):MSz 1024 q:=⟨h.1.1.gsz,h.1.2.1.gsz,h.1.2.2.1.gsz,h.1.2.2.2.gsz⟩
theorem ma_det {q:MQ} (h:MayQ q):GSz 100000 (mdet q):=(((ma_ksz h).a.mul (ma_ksz h).d).sub ((ma_ksz h).b.mul (ma_ksz h).c)).mono (by decide)
theorem ma_tr {q:MQ} (h:MayQ q):GSz 10000 (gadd q.a q.d):=((ma_ksz h).a.add (ma_ksz h).d).mono (by decide)
noncomputable def sMaDet:Spec Tryz.prog :=
 Spec.auto Tryz.call55 [.one (.a (mCl q))] [] (maG (mdet q)) [] [(sOpenYes h).e,(sDet ((ma_ksz h).mono (by decide))).e,(sTold ((ma_det h).mono (by decide))).e] [] 800 Tryz.func55 hmA (by kernel_rfl) (fun β=>by kernel_rfl)
noncomputable def sMaTr:Spec Tryz.prog :=
 Spec.auto Tryz.call56 [.one (.a (mCl q))] [] (maG (gadd q.a q.d)) [] [(sOpenYes h).e,(sAdd ((ma_ksz h).a.mono (by decide)) ((ma_ksz h).d.mono (by decide))).e,(sTold ((ma_tr h).mono (by decide))).e] [] 800 Tryz.func56 hmA (by kernel_rfl) (fun β=>by kernel_rfl)
abbrev maPole (q:MQ):Pt:=msend (minv q) .inf (gzero (msD (minv q) .inf))
theorem ma_isz {q:MQ} (h:MayQ q):MSz 100000 (minv q):=(minv_sz (ma_ksz h) (minv_reg h.reg)).mono (by decide)
theorem ma_psz {q:MQ} (h:MayQ q) {b:Bool} (hb:gzero (msD (minv q) .inf)=b):PSz KB (msend (minv q) .inf b):=by
 cases b
 · exact (GSz.div (msN_sz (p:=.inf) (j:=1024) (ma_isz h) trivial) (msD_sz (p:=.inf) (j:=1024) (ma_isz h) trivial) hb).mono (by decide)
 · trivial
noncomputable def sMaPole0 {b:Bool} (hb:gzero (msD (minv q) .inf)=b):Spec Tryz.prog :=
 Spec.auto Tryz.call57 [.one (.a (mCl q))] [] (maP0' (msend (minv q) .inf b)) []
  [(sOpenYes h).e,(sUndoR ((fitM_sz h.1).mono (by decide)) h.reg).e,(sSend (p:=.inf) ((ma_isz h).mono (by decide)) trivial hb).e,(sToldP (msend (minv q) .inf b) (ma_psz h hb)).e] [] 800 Tryz.func57 hmA (by cases b<;>kernel_rfl) (fun β=>by cases b<;>kernel_rfl)
noncomputable def sMaPole:Spec Tryz.prog:=(sMaPole0 h rfl).conv (maP (maPole q)) (maP_eq _)
noncomputable def sMaRTr:Spec Tryz.prog :=
 Spec.auto Tryz.call62 [.one (.a (mCl q))] [] (gS (gadd q.a q.d)) [] [(sR4Plus ((ma_ksz h).a.mono (by decide)) ((ma_ksz h).d.mono (by decide))).e] [] 400 Tryz.func62 hmA (by kernel_rfl) (fun β=>by kernel_rfl)
noncomputable def sMaRPole:Spec Tryz.prog :=
 Spec.auto Tryz.call64 [.one (.a (mCl q))] [] (svP (maPole q)) [] [(sR8Inv ((ma_ksz h).mono (by decide)) (minv_reg h.reg)).e,(sR8At (p:=.inf) ((ma_isz h).mono (by decide)) trivial (b:=gzero (msD (minv q) .inf)) rfl).e] [] 400 Tryz.func64 hmA (by kernel_rfl) (fun β=>by kernel_rfl)
end
section
variable {m:Mp} {t:Bool} (h:OpenNo m t)
def sMaDetNo:Spec Tryz.prog :=
 Spec.auto Tryz.call55 [.one (.a m.C)] [] (.tup [.a (lsX g0C),nI' 2]) [] [(sOpenNo h).e] [] 800 Tryz.func55 hmA (by kernel_rfl) (fun β=>by kernel_rfl)
def sMaTrNo:Spec Tryz.prog :=
 Spec.auto Tryz.call56 [.one (.a m.C)] [] (.tup [.a (lsX g0C),nI' 2]) [] [(sOpenNo h).e] [] 800 Tryz.func56 hmA (by kernel_rfl) (fun β=>by kernel_rfl)
def sMaPoleNo:Spec Tryz.prog :=
 Spec.auto Tryz.call57 [.one (.a m.C)] [] (.tup [pt0,nI' 2]) [] [(sOpenNo h).e] [] 800 Tryz.func57 hmA (by kernel_rfl) (fun β=>by kernel_rfl)
end
theorem ma_geq (x y:R4):(x.eq x&&(y.eq y&&true))=true:=geq_self x y
def maG0:Ev Tryz.prog:=eqEvG r40 r40 r40 r40 true (ma_geq _ _)
def maP0:Ev Tryz.prog:=eqEvP false false r40 r40 r40 r40 true (by rw [ma_geq]; rfl)
noncomputable def sMaNum (z:GQ):Spec Tryz.prog :=
 ⟨60,Tryz.call60,[.one (.a (lsX (gaC z))),.one (nI' (gaK z)),gS z],[],tB' true,[],fun β w hh=>by
  by_cases h:FitG z
  · rw [(ga_fit h).1,(ga_fit h).2]
    exact spec_auto (evs:=[(sR4Fits z (iff_true_of h)).e,eqEvG (fR z.re) (fR z.im) (fR z.re) (fR z.im) true (ma_geq _ _),(sNum8 0).e]) (Ns:=[]) (m:=400) Tryz.func60 hmA (fun β=>by kernel_rfl) (by kernel_rfl) β w hh
  · rw [(ga_not h).1,(ga_not h).2]
    exact spec_auto (evs:=[(sR4Fits z (iff_false_of h)).e,maG0,(sNum8 4).e]) (Ns:=[]) (m:=400) Tryz.func60 hmA (fun β=>by kernel_rfl) (by kernel_rfl) β w hh,by kernel_rfl⟩
theorem ma_fitT {R:Pt} (h:FitP R):maPc R=lsX R.w.C∧paK R=0:=by
 refine ⟨?_,paK_fit h⟩
 rw [maPc,(pa_fit h).1,(pa_fit h).2.1,(pa_fit h).2.2]
 rfl
theorem ma_fitN {R:Pt} (h:¬ FitP R):maPc R=.b (.v (.bool false))::lsX g0C∧paK R=4:=by
 refine ⟨?_,paK_not h⟩
 rw [maPc,(pa_not h).1,(pa_not h).2.1,(pa_not h).2.2]
 rfl
noncomputable def sMaPF (R:Pt) {b:Bool} (hb:b=true↔FitP R):Spec Tryz.prog :=
 ⟨67,Tryz.call67,[svP R],[],tB' b,[],fun β w hh=>by
  cases R with
  | inf =>
   obtain rfl:b=true:=hb.2 trivial
   exact spec_auto (evs:=[]) (Ns:=[]) (m:=400) Tryz.func67 hmA (fun β=>by kernel_rfl) (by kernel_rfl) β w hh
  | fin z=>exact spec_auto (evs:=[(sR4Fits z hb).e]) (Ns:=[]) (m:=400) Tryz.func67 hmA (fun β=>by kernel_rfl) (by kernel_rfl) β w hh,by kernel_rfl⟩
theorem ma_pself (R:Pt):ptB R R=true:=ptB_iff.2 rfl
noncomputable def sMaPt (R:Pt):Spec Tryz.prog :=
 ⟨63,Tryz.call63,[.one (.a (maPc R)),.one (nI' (paK R)),svP R],[],tB' true,[],fun β w hh=>by
  by_cases h:FitP R
  · rw [(ma_fitT h).1,(ma_fitT h).2]
    exact spec_auto (evs:=[(sMaPF R (iff_true_of h)).e,eqEvPt (ma_pself R),(sNum8 0).e]) (Ns:=[]) (m:=400) Tryz.func63 hmA (fun β=>by kernel_rfl) (by kernel_rfl) β w hh
  · rw [(ma_fitN h).1,(ma_fitN h).2]
    exact spec_auto (evs:=[(sMaPF R (iff_false_of h)).e,maP0,(sNum8 4).e]) (Ns:=[]) (m:=400) Tryz.func63 hmA (fun β=>by kernel_rfl) (by kernel_rfl) β w hh,by kernel_rfl⟩
noncomputable def ppQ:Pp→Pt
 | .fin (.ok x _) (.ok y _)=>.fin ⟨x,y⟩
 | _=>.inf
theorem ppQ_ok {p:Pp} (h:p.B=true):FitP (ppQ p)∧p.w=(ppQ p).w:=by
 cases p with
 | inf=>exact ⟨trivial,rfl⟩
 | odd=>cases h
 | fin a b =>
  cases a with
  | no=>cases h
  | ok x hx=>cases b with
   | no=>cases h
   | ok y hy=>exact ⟨⟨hx,hy⟩,rfl⟩
noncomputable abbrev maR (q:MQ) (p:Pp):Pt:=msend q (ppQ p) (gzero (msD q (ppQ p)))
section
variable {q:MQ} (h:MayQ q) {p:Pp} (hp:p.B=true)
noncomputable def sMaAt:Spec Tryz.prog:=(sAt h (ppQ_ok hp).1 (b:=gzero (msD q (ppQ p))) rfl).as [.one (.a (mCl q)),.one (.a (lsX p.w.C))] (maP (maR q p)) (by
 show [SV.one (.a (mCl q)),SV.one (.a (lsX (ppQ p).w.C))]=_
 rw [(ppQ_ok hp).2]) (maP_eq _)
noncomputable def sMaAtT (hF:FitP (maR q p)):Spec Tryz.prog:=(sMaAt h hp).conv (.tup [.a (lsX (maR q p).w.C),nI' 0]) (by
 show maP (maR q p)=_
 rw [maP,(ma_fitT hF).1,(ma_fitT hF).2])
noncomputable def sMaAtN (hF:¬ FitP (maR q p)):Spec Tryz.prog:=(sMaAt h hp).conv (.tup [pt0,nI' 4]) (by
 show maP (maR q p)=_
 rw [maP,(ma_fitN hF).1,(ma_fitN hF).2]
 rfl)
noncomputable def sMaRAt:Spec Tryz.prog:=(sR8At ((ma_ksz h).mono (by decide)) ((ppQ_ok hp).1.sz.mono (by decide)) (b:=gzero (msD q (ppQ p))) rfl).as [.one (.a (mCl q)),.one (.a (lsX p.w.C))] (svP (maR q p)) (by
 show [SV.one (.a (mCl q)),svP (ppQ p)]=_
 rw [show svP (ppQ p)=SV.one (.a (lsX (ppQ p).w.C)) from rfl,(ppQ_ok hp).2]) rfl
end
def SaidO (P:Program) (fn:Func) (m0:Nat) (res:SV) (K:Nat) (row:Ob) (β:Env) (w:World) (e:Ending) (w':World):Prop :=
 ∃ β':Env,(∀ k,k<m0→β' k=β k)∧e=.returned (res.den β')∧row.holds β' w' (β' K)∧w.heap.size≤(β' K).b∧Fin w w'
def mineF {P:Program} (m0 K:Nat) (f:Cf P):Bool:=f.q K&&Nat.ble m0 K&&match f.ob[K]? with
 | some x=>x.mine
 | none=>false
def mineB {P:Program} (m0 K:Nat):Option (Stop P)→Bool
 | some (.ended f)=>mineF m0 K f
 | _=>false
theorem fin1_partsO {P:Program} {fn:Func} {m0 n:Nat} {res:SV} {K:Nat} {row:Ob} {f:Cf P} (hmine:mineF m0 K f=true) (h:∀ β,Eqs.ok (fin1 P fn m0 n res [(K,row)] f β)):f.good∧∀ {β0:Env} {w:World} {β':Env} {a':Act} {w':World},(∀ k,k<m0→β' k=β0 k)→Sync P m0 n (bd0 w.heap.size m0) w f β' a' w' →
  bodyPost P fn (SaidO P fn m0 res K row β0 w) .normal a' w'∧bodyPost P fn (SaidO P fn m0 res K row β0 w) .ret a' w':=by
 have fin:∃ r:R1 Value,run1 P m0 false (results fn (tmpsS idE f.sl n)) f.q f.ob []=some r∧res.of f.q=true∧r.ob.length=f.ob.length ∧
   ∀ β,Eqs.ok (chk P β (results fn (tmpsS β f.sl n)) r.tr.reverse (fun u=>[(.v u,.v (res.den β))])++(needEqs f.q f.ob [(K,row)]++eqsOf β f.cs)):=by
  cases hx:run1 P m0 false (results fn (tmpsS idE f.sl n)) f.q f.ob [] with
  | none=>have:=h idE; unfold fin1 at this; rw [hx] at this; exact (Eqs.no_ok this).elim
  | some r =>
   obtain ⟨ra,rq,rob,rtr⟩:=r
   cases hc:(res.of f.q&&Nat.beq rob.length f.ob.length&&Nat.beq f.ev.length 0) with
   | false=>have:=h idE; unfold fin1 at this; rw [hx] at this; dsimp only at this; rw [hc] at this; exact (Eqs.no_ok this).elim
   | true =>
    have h3:=hc
    simp only [Bool.and_eq_true,Nat.beq_eq] at hc
    refine ⟨_,rfl,hc.1.1,hc.1.2,fun β=>?_⟩
    have:=h β
    unfold fin1 at this
    rw [hx] at this
    dsimp only at this
    rw [h3] at this
    exact this
 obtain ⟨r,f1,f2,f3,f4⟩:=fin
 refine ⟨fun β x hx=>eqsOf_ok (fun p hp=>f4 β p (List.mem_append.2 (.inr (List.mem_append.2 (.inr hp))))) x hx,?_⟩
 intro β0 w β' a' w' e s
 obtain ⟨h5,_,_,tr,h8,h9⟩:=run1_ok _ _ _ _ _ f1 (fun k hk=>(s.q k).1 hk)
 obtain ⟨k1,obj',k2,k3,k4⟩:=h9 _ _ _ _ _ _ s.good (fun k hk=>⟨hk,rfl⟩) (fun k a b=>by omega) s.m0.1
 have h6:=f4 β'
 rw [h8,List.append_nil,List.reverse_reverse] at h6
 have h7:Eqs.ok (chk P β' (results fn (tmpsS β' f.sl n)) tr (fun u=>[(.v u,.v (res.den β'))])):=fun p hp=>h6 p (List.mem_append.2 (.inl hp))
 obtain ⟨v,hv,hv2⟩:=chk_run _ _ _ h7 k1
 obtain ⟨e1,_⟩:=Eqs.cons_ok hv2
 injection e1 with e1
 subst e1
 rw [f3,rangeQ_self] at k4
 have hend:trEnd β' w' tr=w':=by
  obtain ⟨tr2,x1,x2⟩:=run1_still _ _ _ _ _ f1 (fun k hk=>(s.q k).1 hk) f3
  rw [h8,List.append_nil,List.append_nil] at x1
  rw [List.reverse_inj.1 x1]
  exact x2 β' w'
 rw [hend] at hv k4
 rw [← tmps_eq s.sl] at hv
 unfold mineF at hmine
 rw [Bool.and_eq_true,Bool.and_eq_true] at hmine
 obtain ⟨⟨hq,hk⟩,hmn⟩:=hmine
 rw [Nat.ble_eq] at hk
 have hlow:w.heap.size≤(β' K).b:=by
  cases hx:f.ob[K]? with
  | none=>rw [hx] at hmn; cases hmn
  | some x =>
   rw [hx] at hmn
   exact (s.good.lowm K x hq hk hx hmn).elim id False.elim
 have hneed:Eqs.ok (needEqs f.q f.ob [(K,row)]):=fun p hp=>f4 β' p (List.mem_append.2 (.inr (List.mem_append.2 (.inl hp))))
 have hres:bodyPost P fn (SaidO P fn m0 res K row β0 w) .normal a' w':=⟨s.defers,_,hv,β',e,rfl,needs_hold s.good (fun k hk=>⟨hk,rfl⟩) _ hneed (K,row) (List.mem_singleton.2 rfl),hlow,⟨k4.bel.below⟩⟩
 exact ⟨hres,hres⟩
theorem last_okO {P:Program} {fn:Func} {m0 n:Nat} {w:World} {β0:Env} {res:SV} {K:Nat} {row:Ob} {Ns:List (Nat × Nat)} {m:Nat} {C:Cf P} {p:Code × List Kf} (hm:P.follows .mixedOrders=true) (hmn:mineB m0 K (runP P m0 n Ns m (some p.1) (.lp p.1::p.2) C)=true)
  (he:∀ β,Eqs.ok (lastE P fn m0 n res [(K,row)] (runP P m0 n Ns m (some p.1) (.lp p.1::p.2) C) β)):HdOk P m0 n w.heap.size w β0 (bodyPost P fn (SaidO P fn m0 res K row β0 w)) C p:=by
 intro β a w1 hβ hs
 cases hr:runP P m0 n Ns m (some p.1) (.lp p.1::p.2) C with
 | none=>have:=he idE; rw [hr] at this; exact (Eqs.no_ok this).elim
 | some s =>
  rw [hr] at he
  cases s with
  | head c ks f=>exact (Eqs.no_ok (he idE)).elim
  | ended f =>
   rw [hr] at hmn
   obtain ⟨hg,hw⟩:=fin1_partsO hmn he
   obtain ⟨_,_,r3⟩:=runP_ok hm _ _ _ _ _ hr ⟨hs.q,hs.uq⟩
   exact rounds_one (r3 hg hs _ fun β' a' w' e s'=>hw (fun k hk=>(e k hk).trans (hβ k hk)) s')
theorem sx_cutX {P:Program} {f:FuncId} {fn:Func} (args:List SV) (obs:List Ob) (evs ev:List (Ev P)) (Ns:List (Nat × Nat)) (m:Nat) (hf:P.funcs[f]?=some fn) (hm:P.follows .mixedOrders=true) {u:Nat} {sl:List (Nat × SV)} {ob:List Ob} {σ:List Nat} {p':Code × List Kf} {X:Ending→World→Prop}
  (hp:(startP P fn args obs evs Ns m).bind Stop.pos=some p') (he:∀ β,Eqs.ok (pieceE P obs.length (sizeS fn args) (startP P fn args obs evs Ns m) u sl ob σ β))
  (hargs:args.all (SV.of fun k=>Nat.blt k obs.length)=true) (hobs:obs.all (fun x=>x.of (fun k=>Nat.blt k obs.length)&&x.own)=true) (β:Env) (w:World) (hh:∀ (k:Nat) (o:Ob),obs[k]?=some o→o.holds β w (β k))
  (hH:HdOk P obs.length (sizeS fn args) w.heap.size w β (bodyPost P fn X) (mkC P (sizeS fn args) u sl ob ev) p') :
  Calls P f (args.map (SV.den β)).toArray w X:=by
 have hnal:∀ (k r:Nat) (D:Thing),obs[k]?≠some (.al r D):=fun k r D ho=>by
  have:=List.all_eq_true.1 hobs _ (List.mem_of_getElem? ho)
  simp [Ob.own] at this
 have huq:UniqAl obs:=fun k j i D _ h1 _=>absurd h1 (hnal k i D)
 have hlt:∀ k,k<obs.length→∀ c,(β k).F c→c<w.heap.size:=fun k hk c hc=>by
  have h:=hh k _ (List.getElem?_eq_getElem hk)
  cases hx:obs[k] with
  | box cs t=>rw [hx] at h; rw [(h.1.1 c).1 hc]; exact heap_lt h.2
  | th D=>rw [hx] at h; exact D.st.lt _ _ h c hc
  | al r D=>rw [hx] at h; exact D.st.lt _ _ h c hc
  | pl n=>rw [hx] at h; rw [(h.1.1 c).1 hc]; exact h.2.lt
  | row cs t n sz=>rw [hx] at h; rw [(h.1.1 c).1 hc]; exact heap_lt h.2.choose_spec.1
  | ow D t=>rw [hx] at h; exact D.st.lt _ _ h.2 c hc
  | dead =>
   have:=List.all_eq_true.1 hobs _ (List.mem_of_getElem? (List.getElem?_eq_getElem hk))
   rw [hx] at this
   simp [Ob.own] at this
 cases hb:fn.body with
 | none=>unfold startP at hp; rw [hb] at hp; cases hp
 | some c =>
  have hst:startP P fn args obs evs Ns m=runP P obs.length (sizeS fn args) Ns m (some c) [] ⟨startS args 0,fun k=>Nat.blt k obs.length,obs,evs,[]⟩:=by unfold startP; rw [hb]
  rw [hst] at hp he
  cases hr:runP P obs.length (sizeS fn args) Ns m (some c) [] ⟨startS args 0,fun k=>Nat.blt k obs.length,obs,evs,[]⟩ with
  | none=>rw [hr] at hp; cases hp
  | some s =>
   rw [hr] at hp he
   cases s with
   | ended f=>cases hp
   | head c1 ks1 f1 =>
    obtain rfl:(c1,ks1)=p':=Option.some.inj hp
    obtain ⟨hg,hw⟩:=pieceE_parts ev he
    obtain ⟨_,_,r3⟩:=runP_ok hm _ _ _ _ _ hr ⟨fun k=>by dsimp only; rw [Nat.blt_eq],huq⟩
    refine calls_of_wp hf hb (r3 hg (B0:=bd0 w.heap.size obs.length) (w0:=w) (β:=β) ⟨⟨Keep.refl _ _,Nat.le_refl _,fun k o hk ho=>⟨hh k o ho,(Bool.and_eq_true _ _▸List.all_eq_true.1 hobs o (List.mem_of_getElem? ho)).1⟩,fun k hk=>hlt k (by simpa [Nat.blt_eq] using hk),fun k j hk _ _ hm=>?_,fun k _ hk hm=>?_,fun k hk hm=>?_,fun i hi=>by rw [Nat.blt_eq]; exact hi,fun k r D _ ho=>?_,fun k r D _ ho=>absurd ho (hnal k r D),fun k i _ hi _ hm=>by rw [Nat.blt_eq] at hi; omega⟩,fun k=>by dsimp only; rw [Nat.blt_eq],⟨?_,fun t=>?_⟩,fun t=>?_,⟨Nat.le_refl _,Nat.le_refl _⟩,rfl,huq⟩ _ fun β' a' w' e s=>?_)
    · rw [Nat.blt_eq] at hk; omega
    · rw [Nat.blt_eq] at hk; omega
    · rw [Nat.blt_eq] at hk; omega
    · exact absurd ho (hnal k r D)
    · simp [sizeS]
    · rw [look_start,if_pos (Nat.zero_le _),Nat.sub_zero]
      simp only [Array.getD_eq_getD_getElem?,Array.getElem?_append,List.size_toArray,List.length_map,List.getElem?_toArray,List.getElem?_map]
      split
      · rename_i hlt2
        rw [List.getElem?_eq_getElem hlt2]
        rfl
      · rename_i hge
        rw [List.getElem?_eq_none (by omega)]
        simp [Array.getElem?_replicate]
        split<;>rfl
    · dsimp only
      rw [look_start,if_pos (Nat.zero_le _),Nat.sub_zero]
      cases hx:args[t]? with
      | none=>rfl
      | some x=>exact List.all_eq_true.1 hargs x (List.mem_of_getElem? hx)
    · obtain ⟨β'',e2,s2⟩:=hw s
      exact hH β'' a' w' (fun k hk=>(e2 k hk).trans (e k hk)) s2
end Go.Proofs.YtmfedaakeeiolaaGreat.Y
end
