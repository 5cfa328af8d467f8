/- Osp, GsA, GsB, LsP, IntG, GsC, GsD, L4, Wof, Ops, Near, Txt, GsT, G1. -/
import Derived.Test.YtmfedaakeeiolaaGreatPk12
set_option linter.unnecessarySimpa false
set_option linter.unusedVariables false
set_option linter.unusedSimpArgs false
section
namespace Go.Proofs.YtmfedaakeeiolaaGreat.Y
open Go Go.RowKit
set_option maxRecDepth 100000
def Ob.ren (ρ:Nat→Nat):Ob→Ob
 | .box cs t=>.box (cs.map (Lf.ren ρ)) t
 | x=>x
def ptrB:Option Lf→Bool
 | some (.b (.z _ _))=>true
 | some (.b (.p _ _))=>true
 | some (.b (.v (.string _)))=>true
 | _=>false
def Ob.plainB:Ob→Bool
 | .box cs _=>Nat.blt cs.length 4||ptrB cs[1]?
 | .th _=>true
 | _=>false
theorem Ob.holds_ren {β:Env} {w:World} {g:Pl} {ρ:Nat→Nat}:∀ {o:Ob},o.plainB=true→(o.ren ρ).holds β w g→o.holds (fun k=>β (ρ k)) w g
 | .box cs t,_,h=>⟨h.1,by
  rw [h.2,List.map_map]
  rw [show (Lf.den β ∘ Lf.ren ρ)=Lf.den (fun k=>β (ρ k)) from funext fun x=>Lf.den_ren β ρ x]⟩
 | .th _,_,h=>h
theorem Ob.holds_cg {q:Nat→Bool} {β β':Env} {w:World} {g:Pl} (hq:∀ k,q k=true→β k=β' k):∀ {o:Ob},o.plainB=true→o.of q=true→o.holds β w g→o.holds β' w g
 | .box cs t,_,h,k=>⟨k.1,by rw [k.2,all_congr h (Lf.den_congr hq)]⟩
 | .th _,_,_,k=>k
structure OSpec (P:Program) where
 f:FuncId
 en:Enters P f
 args:List SV
 obs:List Ob
 res:SV
 news:List Rat
 ok:∀ β w,(∀ (k:Nat) (o:Ob),obs[k]?=some o→o.holds β w (β k))→Calls P f (args.map (SV.den β)).toArray w fun e w'=>∃ xs:List Pl,(∀ x∈xs,∀ c,x.F c→w.heap.size≤c∨∃ i o,obs[i]?=some o∧o.isTh=true∧(β i).F c)∧e=.returned (res.den (extE β obs.length xs))∧newHold w' (news.map ratT) xs∧Below w.heap.size w w'
 closed:(args.all (SV.of fun k=>Nat.blt k obs.length)&&obs.all (fun x=>x.of (fun k=>Nat.blt k obs.length)&&x.plainB)&&res.of fun k=>Nat.blt k (obs.length+news.length))=true
def mtBox (o c:Ob):List (Nat × Nat):=match o,c with
 | .box xs _,.box ys _=>mtLs xs ys
 | _,_=>[]
def mtObs (obs ob:List Ob):List (Nat × Nat)→List (Nat × Nat)
 | []=>[]
 | (k,j)::r=>(match obs[k]?,ob[j]? with | some o,some c=>mtBox o c | _,_=>[])++mtObs obs ob r
def sigO {P:Program} (S:OSpec P) (xs:List SV) (ob:List Ob):List Nat:=sigL (mtVs S.args xs++mtObs S.obs ob (mtVs S.args xs)) 0 S.obs.length
def needsO (σ:List Nat) (ρ:Nat→Nat):List Ob→Nat→List (Nat × Ob)
 | [],_=>[]
 | o::r,k=>(lit (σ.getD k 0) fun j=>j,o.ren ρ)::needsO σ ρ r (k+1)
theorem needsO_at {σ:List Nat} {ρ:Nat→Nat}:∀ {l:List Ob} {i k:Nat} {o:Ob},l[k]?=some o→(σ.getD (i+k) 0,o.ren ρ)∈needsO σ ρ l i
 | x::r,i,0,o,h=>by
  simp only [List.getElem?_cons_zero] at h
  obtain rfl:=Option.some.inj h
  unfold needsO
  rw [lit_eq]
  exact List.mem_cons_self ..
 | x::r,i,k+1,o,h=>by
  have:=needsO_at (σ:=σ) (ρ:=ρ) (l:=r) (i:=i+1) (k:=k) (o:=o) (by simpa using h)
  rw [show i+(k+1)=i+1+k by omega]
  exact List.mem_cons_of_mem _ this
def OSpec.ev {P:Program} (S:OSpec P) (σ:List Nat) (n:Nat) (hσ:(Nat.ble S.obs.length σ.length&&σ.all fun k=>Nat.blt k n)=true):Ev P :=
 .call S.f S.en (fun β=>(S.args.map (SV.den fun k=>β (atS σ S.obs.length n k))).toArray) (needsO σ (atS σ S.obs.length n) S.obs 0) n (S.res.ren (atS σ S.obs.length n)) (S.news.map ratT) fun β w h=>by
  have hc:=S.closed
  simp only [Bool.and_eq_true] at hc
  have hat:∀ k,k<S.obs.length→atS σ S.obs.length n k=σ.getD k 0:=fun k hk=>by
   unfold atS
   rw [lit_eq,show Nat.blt k S.obs.length=true by rw [Nat.blt_eq]; exact hk,cond_true]
  have hat2:∀ k,¬ k<S.obs.length→atS σ S.obs.length n k=n+(k-S.obs.length):=fun k hk=>by
   unfold atS
   rw [lit_eq,show Nat.blt k S.obs.length=false by rw [Bool.eq_false_iff,ne_eq,Nat.blt_eq]; exact hk,cond_false]
  rw [Bool.and_eq_true,Nat.ble_eq] at hσ
  have hsn:∀ k,k<S.obs.length→σ.getD k 0<n:=fun k hk=>by
   rw [List.getD_eq_getElem?_getD]
   cases hx:σ[k]? with
   | none=>rw [List.getElem?_eq_none_iff] at hx; omega
   | some y=>have:=List.all_eq_true.1 hσ.2 y (List.mem_of_getElem? hx); rw [Nat.blt_eq] at this; exact this
  have hq:∀ k,Nat.blt k S.obs.length=true→β (atS σ S.obs.length n k)=β (σ.getD k 0):=fun k hk=>by rw [hat k (by simpa [Nat.blt_eq] using hk)]
  have hargs:S.args.map (SV.den fun k=>β (atS σ S.obs.length n k))=S.args.map (SV.den fun k=>β (σ.getD k 0)):=List.map_congr_left fun x hx=>SV.den_congr hq _ (List.all_eq_true.1 hc.1.1 x hx)
  rw [hargs]
  refine (S.ok (fun k=>β (σ.getD k 0)) w fun k o hk=>?_).mono ?_
  · have ho:=List.all_eq_true.1 hc.1.2 o (List.mem_of_getElem? hk)
    rw [Bool.and_eq_true] at ho
    have hlt:k<S.obs.length:=(List.getElem?_eq_some_iff.1 hk).1
    have h1:(o.ren (atS σ S.obs.length n)).holds β w (β (σ.getD k 0)):=by
     have:=h _ (needsO_at (i:=0) hk)
     rwa [Nat.zero_add] at this
    exact Ob.holds_cg hq ho.2 ho.1 (Ob.holds_ren ho.2 h1)
  · rintro e w' ⟨xs,h1,rfl,h3,h4⟩
    refine ⟨xs,fun x hx c hc2=>?_,?_,h3,h4⟩
    · rcases h1 x hx c hc2 with h5 | ⟨i,o,h5,h6,h7⟩
      · exact .inl h5
      · refine .inr ⟨_,needsO_at (i:=0) h5,?_,?_⟩
        · cases o<;>first | exact h6 | cases h6
        · rw [Nat.zero_add]; exact h7
    · rw [SV.den_ren]
      congr 1
      refine SV.den_congr (fun k hk=>?_) _ hc.2
      have hlen:=(newHold_get h3).1
      rw [List.length_map] at hlen
      rw [Nat.blt_eq] at hk
      by_cases hk2:k<S.obs.length
      · rw [hat k hk2,extE_out (β:=β) (n:=n) (k:=σ.getD k 0) (xs:=xs) (by have:=hsn k hk2; omega),extE_out (n:=S.obs.length) (k:=k) (xs:=xs) (by omega)]
      · rw [hat2 k hk2]
        have h5:k-S.obs.length<xs.length:=by omega
        rw [extE_in (List.getElem?_eq_getElem h5)]
        have:=extE_in (β:=fun k=>β (σ.getD k 0)) (n:=S.obs.length) (List.getElem?_eq_getElem h5)
        rw [show S.obs.length+(k-S.obs.length)=k by omega] at this
        exact this
def OSpec.e {P:Program} (S:OSpec P):Ev P:=.dyn (fun o _ _=>isCallB o) fun _ xs ob =>
 lits (sigO S xs ob) fun σ=>lit ob.length fun n=>if h:(Nat.ble S.obs.length σ.length&&σ.all fun k=>Nat.blt k n)=true then S.ev σ n h else .eqv 0 undef undef rfl
theorem ptr_no_rat {w:World} {b:Nat} {cs:Array Value} {t:TypeId} {x:Rat} {q:Option Addr} (h:w.heap[b]?=some (.cells cs t (0,0))) (hq:cs[1]?=some (.pointer q)) (k:RatAt w b 0 x):False:=by
 obtain ⟨A,m,cap,_,h1,_⟩:=k.2.1.open_
 have h2:=cell_lay (o:=1) h hq
 rw [Nat.zero_add,h2] at h1
 cases h1
theorem str1_no_rat {w:World} {b:Nat} {cs:Array Value} {t:TypeId} {x:Rat} {q:ByteArray} (h:w.heap[b]?=some (.cells cs t (0,0))) (hq:cs[1]?=some (.string q)) (k:RatAt w b 0 x):False:=by
 obtain ⟨A,m,cap,_,h1,_⟩:=k.2.1.open_
 have h2:=cell_lay (o:=1) h hq
 rw [Nat.zero_add,h2] at h1
 cases h1
theorem small_no_rat {w:World} {b:Nat} {cs:Array Value} {t:TypeId} {x:Rat} (h:w.heap[b]?=some (.cells cs t (0,0))) (hs:cs.size<4) (k:RatAt w b 0 x):False:=by
 obtain ⟨cs',t',h1,_,h2⟩:=k.1
 rw [h] at h1
 obtain ⟨rfl,_,_⟩:=Obj.cells.inj (Option.some.inj h1)
 omega
def idxO (P:Program) (fn:Func) (args:List SV) (obs:List Ob) (evs:List (Ev P)) (Ns:List (Nat × Nat)) (m:Nat) (res:SV):List (Nat × Nat) :=
 match fn.body with
 | some c=>match fullS P fn args obs evs Ns m c with
  | some f=>match run1 P obs.length false (results fn (tmpsS idE f.sl (sizeS fn args))) f.q f.ob [] with
   | some ⟨v,_,_,_⟩=>mtR res (tag v)
   | none=>[]
  | none=>[]
 | none=>[]
def specO (P:Program) (fn:Func) (args:List SV) (obs:List Ob) (evs:List (Ev P)) (Ns:List (Nat × Nat)) (m:Nat) (res:SV) (news:List Rat) (idx:List Nat) (β:Env):Eqs :=
 allS P fn args obs evs Ns m (res.ren (backS obs.length idx)) (idx.zip (news.map fun x=>(ratT x).ob)) β
def specOA (P:Program) (fn:Func) (args:List SV) (obs:List Ob) (evs:List (Ev P)) (Ns:List (Nat × Nat)) (m:Nat) (res:SV) (news:List Rat) (β:Env):Eqs :=
 lits (sigL (idxO P fn args obs evs Ns m res) obs.length news.length) fun idx=>specO P fn args obs evs Ns m res news idx β
theorem newHold_rats {β:Env} {w:World}:∀ {idx:List Nat} {l:List Rat},idx.length=l.length→holdsAll β w (idx.zip (l.map fun x=>(ratT x).ob))→newHold w (l.map ratT) (idx.map β)
 | [],[],_,_=>trivial
 | [],_::_,h,_=>by simp at h
 | _::_,[],h,_=>by simp at h
 | i::r,t::l,h,k=>⟨k (i,(ratT t).ob) (by simp),newHold_rats (by simpa using h) fun p hp=>k p (by simp only [List.map_cons,List.zip_cons_cons]; exact List.mem_cons_of_mem _ hp)⟩
theorem ospec_ok {P:Program} {f:FuncId} {fn:Func} {args:List SV} {obs:List Ob} {evs:List (Ev P)} {Ns:List (Nat × Nat)} {m:Nat} {res:SV} {news:List Rat} (hf:P.funcs[f]?=some fn) (hm:P.follows .mixedOrders=true)
  (h0:∀ β,(specOA P fn args obs evs Ns m res news β).map Prod.fst=(specOA P fn args obs evs Ns m res news β).map Prod.snd)
  (hB:(args.all (SV.of fun k=>Nat.blt k obs.length)&&obs.all (fun x=>x.of (fun k=>Nat.blt k obs.length)&&x.plainB)&&res.of fun k=>Nat.blt k (obs.length+news.length))=true)
  (β:Env) (w:World) (hh:∀ (k:Nat) (o:Ob),obs[k]?=some o→o.holds β w (β k)) :
  Calls P f (args.map (SV.den β)).toArray w fun e w'=>∃ xs:List Pl,(∀ x∈xs,∀ c,x.F c→w.heap.size≤c∨∃ i o,obs[i]?=some o∧o.isTh=true∧(β i).F c)∧e=.returned (res.den (extE β obs.length xs))∧newHold w' (news.map ratT) xs∧Below w.heap.size w w':=by
 obtain ⟨idx,hidx⟩:∃ idx,idx=sigL (idxO P fn args obs evs Ns m res) obs.length news.length:=⟨_,rfl⟩
 have hlen:idx.length=news.length:=by rw [hidx,sigL_len]
 have h:∀ β,(specO P fn args obs evs Ns m res news idx β).map Prod.fst=(specO P fn args obs evs Ns m res news idx β).map Prod.snd:=fun β=>by
  have:=h0 β
  unfold specOA at this
  rw [lits_eq,← hidx] at this
  exact this
 simp only [Bool.and_eq_true] at hB
 obtain ⟨⟨h1,h2⟩,h3⟩:=hB
 refine (sx (P:=P) args obs evs Ns m (res.ren (backS obs.length idx)) (idx.zip (news.map fun x=>(ratT x).ob)) hf hm (fun β=>ok_of_maps (h β)) h1
  (List.all_eq_true.2 fun x hx=>by
   have:=List.all_eq_true.1 h2 x hx
   rw [Bool.and_eq_true] at this ⊢
   refine ⟨this.1,?_⟩
   have h4:=this.2
   cases x<;>first | rfl | cases h4) β w hh).mono ?_
 rintro e w' ⟨β',q,obj,e1,rfl,e2,e4,e5,g⟩
 have hz:(idx.zip (news.map fun x=>(ratT x).ob)).map (fun p=>β' p.1)=idx.map β':=by
  rw [show (fun p:Nat × Ob=>β' p.1)=β' ∘ Prod.fst from rfl,← List.map_map,List.map_fst_zip (by rw [List.length_map]; omega)]
 refine ⟨idx.map β',fun x hx c hcF=>?_,?_,newHold_rats hlen e5,g.bel⟩
 · rw [← hz] at hx
   obtain ⟨p,hp,rfl⟩:=List.mem_map.1 hx
   rcases e4 p hp c hcF with h5 | ⟨i,h5,h6⟩
   · exact .inl h5
   · have ho:=List.getElem?_eq_getElem h5
     have hpl:=List.all_eq_true.1 h2 obs[i] (List.getElem_mem h5)
     rw [Bool.and_eq_true] at hpl
     have hho:=hh i _ ho
     generalize obs[i]=o at ho hpl hho
     cases o with
     | th D=>exact .inr ⟨i,_,ho,rfl,h6⟩
     | box cs t =>
      exfalso
      obtain ⟨hone,hheap⟩:=hho
      have hcb:=(hone.1 c).1 h6
      subst hcb
      obtain ⟨r,hr⟩:∃ r,p.2=(ratT r).ob:=by
       have:=(List.of_mem_zip hp).2
       obtain ⟨r,_,hr⟩:=List.mem_map.1 this
       exact ⟨r,hr.symm⟩
      have hD:=e5 p hp
      rw [hr] at hD
      obtain ⟨b,hb1,hb2⟩:PR r w' (β' p.1):=hD
      have hcb:=(hb1.2 _).1 hcF
      subst hcb
      have hw:w'.heap[(β i).b]?=some (.cells (cs.map (Lf.den β)).toArray t (0,0)):=by rw [g.bel.block _ (heap_lt hheap)]; exact hheap
      have:=hpl.2
      unfold Ob.plainB at this
      rw [Bool.or_eq_true,Nat.blt_eq] at this
      rcases this with this | this
      · exact small_no_rat hw (by simpa using this) hb2
      · have hq:(∃ q,(cs.map (Lf.den β))[1]?=some (.pointer q))∨∃ q,(cs.map (Lf.den β))[1]?=some (.string q):=by
         rw [List.getElem?_map]
         unfold ptrB at this
         split at this
         · rename_i k j e; rw [e]; exact .inl ⟨_,rfl⟩
         · rename_i k j e; rw [e]; exact .inl ⟨_,rfl⟩
         · rename_i k e; rw [e]; exact .inr ⟨_,rfl⟩
         · cases this
        rcases hq with ⟨q,hq⟩ | ⟨q,hq⟩
        · exact ptr_no_rat hw (by simpa using hq) hb2
        · exact str1_no_rat hw (by simpa using hq) hb2
     | al r D=>cases hpl.2
     | pl n=>cases hpl.2
     | row cs t n sz=>cases hpl.2
     | ow D t=>cases hpl.2
     | dead=>cases hpl.2
 · rw [SV.den_ren]
   congr 1
   refine SV.den_congr (fun k hk=>?_) _ h3
   rw [Nat.blt_eq] at hk
   unfold backS
   rw [lit_eq]
   by_cases hk2:k<obs.length
   · rw [show Nat.blt k obs.length=true by rw [Nat.blt_eq]; exact hk2,cond_true,extE_out (by omega)]
     exact e1 k hk2
   · rw [show Nat.blt k obs.length=false by rw [Bool.eq_false_iff,ne_eq,Nat.blt_eq]; exact hk2,cond_false]
     have h5:k-obs.length<idx.length:=by omega
     have:=extE_in (β:=β) (n:=obs.length) (xs:=idx.map β') (i:=k-obs.length) (x:=β' idx[k-obs.length]) (by simp [h5])
     rw [show obs.length+(k-obs.length)=k by omega] at this
     rw [this,List.getD_eq_getElem?_getD,List.getElem?_eq_getElem h5,Option.getD_some]
def OSpec.auto {P:Program} {f:FuncId} {fn:Func} (en:Enters P f) (args:List SV) (obs:List Ob) (res:SV) (news:List Rat) (evs:List (Ev P)) (Ns:List (Nat × Nat)) (m:Nat) (hf:P.funcs[f]?=some fn) (hm:P.follows .mixedOrders=true)
  (hB:(args.all (SV.of fun k=>Nat.blt k obs.length)&&obs.all (fun x=>x.of (fun k=>Nat.blt k obs.length)&&x.plainB)&&res.of fun k=>Nat.blt k (obs.length+news.length))=true)
  (h:∀ β,(specOA P fn args obs evs Ns m res news β).map Prod.fst=(specOA P fn args obs evs Ns m res news β).map Prod.snd):OSpec P :=
 ⟨f,en,args,obs,res,news,ospec_ok hf hm h hB,hB⟩
theorem text_no_rat {w:World} {b:Nat} {c0:Value} {s:ByteArray} {l:List Value} {t:TypeId} {x:Rat} (h:w.heap[b]?=some (.cells (c0::.string s::l).toArray t (0,0))) (k:RatAt w b 0 x):False:=by
 obtain ⟨A,m,cap,_,h1,_⟩:=k.2.1.open_
 have h2:=cell_lay (o:=1) h rfl
 rw [Nat.zero_add,h2] at h1
 cases h1
abbrev opA:List SV:=[.one (.c (.b (.s 0 0 2 2)))]
def op2L (a b:Gn):List Lf:=rL a.x++rL a.y++rL b.x++rL b.y
def numR (z w:GQ):List Cd:=[.r z.re,.r z.im,.r w.re,.r w.im]
def five (z w:GQ):List (Nat × Ob):=[(13,.row [.b (.z 3 0),.b (.z 4 0),.b (.z 9 0),.b (.z 10 0)] 168 2 2),(3,(ratT z.re).ob),(4,(ratT z.im).ob),(9,(ratT w.re).ob),(10,(ratT w.im).ob)]
noncomputable def opE {z w:GQ} (hz:FitG z) (hw:FitG w):List (Ev Tryz.prog):=[.app appN,ofE hz,.app appN,ofE hw,.app appN]
theorem open2_eqs {z w:GQ} (hz:FitG z) (hw:FitG w) (β:Env) :
  (allS Tryz.prog Tryz.f290 opA [.box (op2L (.ok z hz) (.ok w hw)) 37] (opE hz hw) [] 800 (.tup [.c (.b (.r 13 2)),.c (.b (.v (.int .i64 0)))]) (five z w) β).map Prod.fst =
  (allS Tryz.prog Tryz.f290 opA [.box (op2L (.ok z hz) (.ok w hw)) 37] (opE hz hw) [] 800 (.tup [.c (.b (.r 13 2)),.c (.b (.v (.int .i64 0)))]) (five z w) β).map Prod.snd:=by kernel_rfl
theorem opened_ok {z w':GQ} (hz:FitG z) (hw:FitG w') (β:Env) (w:World) (hh:(Ob.box (op2L (.ok z hz) (.ok w' hw)) 37).holds β w (β 0)) :
  Calls Tryz.prog 290 (opA.map (SV.den β)).toArray w fun e u=>∃ xs:List Pl,(∀ x∈xs,∀ c,x.F c→w.heap.size≤c)∧e=.returned ((SV.tup [.c (.b (.y 1 4 2)),.c (.b (.v (.int .i64 0)))]).den (extE β 1 xs))∧newHold u [rowT 168 (numR z w')] xs∧Below w.heap.size w u:=by
 refine (sx (P:=Tryz.prog) opA [.box (op2L (.ok z hz) (.ok w' hw)) 37] (opE hz hw) [] 800 (.tup [.c (.b (.r 13 2)),.c (.b (.v (.int .i64 0)))]) (five z w') Tryz.func290 hmA (fun β=>ok_of_maps (open2_eqs hz hw β)) (by kernel_rfl) (by kernel_rfl) β w (fun k o ho=>?_)).mono ?_
 · cases k with
   | zero=>simp only [List.getElem?_cons_zero] at ho; obtain rfl:=Option.some.inj ho; exact hh
   | succ k=>simp at ho
 · rintro e u ⟨β',q,obj,e1,rfl,e2,e4,e5,g⟩
   have hnew:∀ p∈five z w',∀ c,(β' p.1).F c→c≠(β 0).b→w.heap.size≤c:=fun p hp c hc hne=>by
    rcases e4 p hp c hc with h | ⟨i,hi,h⟩
    · exact h
    · obtain rfl:i=0:=by simp only [List.length_singleton] at hi; omega
      exact absurd ((hh.1.1 c).1 h) hne
   have hu:u.heap[(β 0).b]?=some (.cells ((op2L (.ok z hz) (.ok w' hw)).map (Lf.den β)).toArray 37 (0,0)):=by rw [g.bel.block _ (heap_lt hh.2)]; exact hh.2
   have hrat:∀ (k:Nat) (x:Rat),(k,(ratT x).ob)∈five z w'→∃ b,(β' k).v 0=some ⟨b,0,none⟩∧w.heap.size≤b∧RatAt u b 0 x:=fun k x hk=>by
    obtain ⟨b,hb,hx⟩:PR x u (β' k):=e5 _ hk
    refine ⟨b,hb.1,hnew _ hk b ((hb.2 b).2 rfl) fun e=>?_,hx⟩
    rw [e] at hx
    exact text_no_rat hu hx
   obtain ⟨b1,p1,n1,k1⟩:=hrat 3 z.re (by simp [five])
   obtain ⟨b2,p2,n2,k2⟩:=hrat 4 z.im (by simp [five])
   obtain ⟨b3,p3,n3,k3⟩:=hrat 9 w'.re (by simp [five])
   obtain ⟨b4,p4,n4,k4⟩:=hrat 10 w'.im (by simp [five])
   obtain ⟨hone,cur,hcur,hcl,hn,hcm,hsz,htake⟩:=e5 (13,.row [.b (.z 3 0),.b (.z 4 0),.b (.z 9 0),.b (.z 10 0)] 168 2 2) (by simp [five])
   have hr:w.heap.size≤(β' 13).b:=hnew _ (by simp [five]) _ ((hone.1 _).2 rfl) fun e=>by
    rw [e,hu] at hcur
    have:=(Obj.cells.inj (Option.some.inj hcur)).2.1
    exact absurd this (by decide)
   refine ⟨[⟨(β' 13).b,fun i=>match i with | 0=>some ⟨b1,0,none⟩ | 1=>some ⟨b2,0,none⟩ | 2=>some ⟨b3,0,none⟩ | 3=>some ⟨b4,0,none⟩ | _=>some ⟨(β' 13).b,0,none⟩,fun _=>(β' 13).c 0,fun c=>c=(β' 13).b∨c=b1∨c=b2∨c=b3∨c=b4,fun _=>undef⟩],fun x hx c hc=>?_,?_,⟨⟨⟨.inl rfl,cur,hcur,?_⟩,⟨⟨.inr ⟨b1,rfl,.inr (.inl rfl),k1⟩,.inr ⟨b2,rfl,.inr (.inr (.inl rfl)),k2⟩,.inr ⟨b3,rfl,.inr (.inr (.inr (.inl rfl))),k3⟩,.inr ⟨b4,rfl,.inr (.inr (.inr (.inr rfl))),k4⟩,trivial⟩,rfl⟩,fun c hc=>?_⟩,trivial⟩,g.bel⟩
   · obtain rfl:=List.mem_singleton.1 hx
     rcases hc with rfl | rfl | rfl | rfl | rfl<;>assumption
   · rfl
   · have:(numR z w').length=2*2:=rfl
     rw [this,htake]
     show [Value.pointer _,.pointer _,.pointer _,.pointer _]=[Value.pointer _,.pointer _,.pointer _,.pointer _]
     show [Value.pointer ((β' 3).v 0),.pointer ((β' 4).v 0),.pointer ((β' 9).v 0),.pointer ((β' 10).v 0)]=_
     rw [p1,p2,p3,p4]
     rfl
   · rcases hc with rfl | rfl | rfl | rfl | rfl
     · exact heap_lt hcur
     · exact k1.lt
     · exact k2.lt
     · exact k3.lt
     · exact k4.lt
noncomputable def sOpened {z w:GQ} (hz:FitG z) (hw:FitG w):CSpec Tryz.prog :=
 ⟨290,Tryz.call290,opA,op2L (.ok z hz) (.ok w hw),37,.tup [.c (.b (.y 1 4 2)),.c (.b (.v (.int .i64 0)))],[rowT 168 (numR z w)],opened_ok hz hw,by kernel_rfl⟩
abbrev FT2:TypeId:=223
abbrev FT1:TypeId:=202
def FN (v:Value) (T:TypeId) (w:World) (g:Pl):Prop:=∃ b,At1 g b∧w.heap[b]?=some (.cells #[v] T (0,0))
theorem fn_stable (v:Value) (T:TypeId):Stable (FN v T) :=
 ⟨fun w g ⟨b,h,k⟩ c hc=>by rw [(h.2 c).1 hc]; exact heap_lt k,fun w w' g ⟨b,h,k⟩ hb=>⟨b,h,by rw [hb.block b (heap_lt k)]; exact k⟩,
  fun w w' g b o n m ⟨d,h,k⟩ hs ht hne=>⟨d,h,by rw [ht.block d (heap_lt k) fun e=>hne ((h.2 b).2 e.symm)]; exact k⟩⟩
def funT (v:Value) (T:TypeId):Thing:=thing (FN v T) (fn_stable v T)
abbrev fnV (g:FuncId):Value:=.func (.func g) #[] #[]
abbrev fnL (g:FuncId):Lf:=.f (.func g) [] []
def rdFun (d t:Nat) (g:FuncId) (k:Nat):Ev Tryz.prog:=.rd d (.load FT2 (.tmp t)) (fun β=>[.pointer ((β k).v 0)]) [(k,(funT (fnV g) FT2).ob)] 0 (.one (.c (fnL g))) [] (fun β w h ρ o ho hx=>by
 obtain ⟨b,hb,hk⟩:FN (fnV g) FT2 w (β k):=h (k,(funT (fnV g) FT2).ob) (by simp)
 have h2:ρ (.tmp t)=.pointer (some ⟨b,0,none⟩):=by
  rw [hb.1] at hx
  simpa [Op.operands] using hx
 have hc:=cell_lay (o:=0) (u:=fnV g) hk rfl
 have hagg:(isAgg FT2).run Tryz.prog w=.ok false w:=by
  unfold isAgg
  simp [run_underlying Tryz.underlying223]
 have hl:(loadVar FT2 ⟨b,0,none⟩).run Tryz.prog w=.ok (fnV g) w:=by
  unfold loadVar
  simp [hagg,hc]
 refine ⟨[],w,(fun _ h=>by cases h),?_,trivial,Below.refl _ _⟩
 unfold execOp
 rw [ho]
 simp only [h2]
 simp [Instr.loadAt,Instr.sureAddr,hl,Result.andThen]
 rfl)
def dFun (g:FuncId):Ev Tryz.prog:=.dyn (fun o xs ob=>match o.op with
 | .load T (.tmp _)=>Nat.beq T FT2
 | _=>false) fun o xs _=>match o.op with
 | .load _ (.tmp t)=>lit (ptOf (xs.getD 0 undefS)) fun k=>rdFun (o.dst.getD 0) t g k
 | _=>.eqv 0 undef undef rfl
abbrev sureL:Lf:=.f (.func 340) [] [.z 0 0]
abbrev madeL:Lf:=.f (.func 277) [] [.p 0 0]
theorem sure_ok (g:FuncId) (β:Env) (w:World):Calls Tryz.prog 274 (([.one (.c (fnL g))]:List SV).map (SV.den β)).toArray w fun e u=>∃ xs:List Pl,freshS β w 0 xs∧e=.returned ((SV.one (.c sureL)).den (extE β 0 xs))∧newHold u [funT (fnV g) FT2] xs∧Below w.heap.size w u:=by
 refine (sx (P:=Tryz.prog) [.one (.c (fnL g))] [] [] [] 400 (.one (.c (.f (.func 340) [] [.p 0 0]))) [(0,.box [fnL g] FT2)] Tryz.func274 hmA (fun β=>ok_of_maps (by kernel_rfl)) (by kernel_rfl) (by kernel_rfl) β w (fun k o ho=>by simp at ho)).mono ?_
 rintro e u ⟨β',q,obj,e1,rfl,e2,e4,e5,gd⟩
 obtain ⟨hone,hheap⟩:=e5 (0,.box [fnL g] FT2) (by simp)
 refine ⟨[newPl (β' 0).b],fun x hx c hc=>?_,rfl,⟨⟨_,(newPl_one _).at1,hheap⟩,trivial⟩,gd.bel⟩
 obtain rfl:=List.mem_singleton.1 hx
 rw [((newPl_one _).1 c).1 hc]
 exact e4 (0,.box [fnL g] FT2) (by simp) _ ((hone.1 _).2 rfl)
def sSure (g:FuncId):Spec Tryz.prog :=
 ⟨274,Tryz.call274,[.one (.c (fnL g))],[],.one (.c sureL),[funT (fnV g) FT2],fun β w _=>sure_ok g β w,by kernel_rfl⟩
noncomputable abbrev gA2 (z:GQ):SV:=.tup [.a (lsX (gaC z)),nI' (gaK z)]
abbrev ga0 (k:Int):SV:=.tup [.a (lsX g0C),nI' k]
abbrev gnS (a:Gn):SV:=.one (.a (rL a.x++rL a.y))
theorem _root_.Go.Proofs.YtmfedaakeeiolaaGreat.FitG.gsz {z:GQ} (h:FitG z):GSz 1024 z:=⟨h.1.sz,h.2.sz⟩
noncomputable def sSureMul {z w:GQ} (hz:FitG z) (hw:FitG w):Spec Tryz.prog :=
 Spec.auto Tryz.call340 [nV 0,nV 2,.one (.c (.b (.z 4 0)))] (gM z++gM w++[funT (fnV 167) FT2]) (.tup [nA 5,nI' 0]) (gT (gmul z w)) [dFun 167,(sMul (hz.gsz.mono (by decide)) (hw.gsz.mono (by decide))).e] [] 400 Tryz.func340 hmA (by kernel_rfl) (fun β=>by kernel_rfl)
noncomputable def sTwoMul {z w:GQ} (hz:FitG z) (hw:FitG w):Spec Tryz.prog :=
 Spec.auto Tryz.call273 [gS z,gS w,.one (.c sureL)] [funT (fnV 167) FT2] (gA2 (gmul z w)) [] [(sOpened hz hw).e,dIdx 168 (numR z w),dNum 168 (numR z w),dIdx 168 (numR z w),dNum 168 (numR z w),(sSureMul hz hw).e,(sTold ((hz.gsz.mul hw.gsz).mono (by decide))).e] [(4,13012013)] 800 Tryz.func273 hmA (by kernel_rfl) (fun β=>by kernel_rfl)
noncomputable def sGMul {z w:GQ} (hz:FitG z) (hw:FitG w):Spec Tryz.prog :=
 Spec.auto Tryz.call157 [gS z,gS w] [] (gA2 (gmul z w)) [] [(sSure 167).e,(sTwoMul hz hw).e] [(1,6)] 400 Tryz.func157 hmA (by kernel_rfl) (fun β=>by kernel_rfl)
noncomputable abbrev tgF:Func:=Tryz.f184
abbrev tgA (n:Nat) (g:FuncId):List SV:=[lsSlc n,nV 1,.one (.c (fnL g))]
noncomputable abbrev tgN (n:Nat) (g:FuncId):Nat:=sizeS tgF (tgA n g)
abbrev tgO (N:Nat) (G:Nat→Gn) (a:GQ):List Thing:=[lqT N G,ratT a.re,ratT a.im]
abbrev tgSl (n:Nat) (g:FuncId) (j:Nat):List (Nat × SV):=[(2,.one (.c (fnL g))),(4,.one (.c (.b (.p 4 0)))),(6,.one (.c (.b (.p 5 0)))),(7,.one (nI' 0)),(25,.one (.c (.b (.s 6 0 n n)))),(26,.one (nI' (n:Int))),(27,.one (nI' (j:Int)))]
noncomputable abbrev tgC (n N:Nat) (G:Nat→Gn) (a:GQ) (g:FuncId) (j:Nat) (c:GQ) (ev:List (Ev Tryz.prog)):Cf Tryz.prog :=
 mkC Tryz.prog (tgN n g) 3 (tgSl n g j) [(lqT N G).ob,(ratT a.re).ob,(ratT a.im).ob,.dead,.box [.b (.z 7 0),.b (.z 8 0)] NUM,.box (lsX g0C) TG,(nuT (lqZ G) n n).ob,(ratT c.re).ob,(ratT c.im).ob] ev
abbrev tgH (n:Nat) (g:FuncId) (r:GQ) (β0:Env) (w:World) (C:Cf Tryz.prog):Prop:=HdOk Tryz.prog 3 (tgN n g) w.heap.size w β0 (bodyPost Tryz.prog tgF (Said Tryz.prog tgF 3 (gA2 r) [] β0 w)) C (lpAt tgF 0)
noncomputable def tgEl {n j:Nat} (G:Nat→Gn) (hj:j<n):List (Ev Tryz.prog):=[.eqv 28 (.bool (decide ((j:Int)<(n:Int)))) (.bool true) (by rw [decide_eq_true (by omega)]),eIxS nus_u nus_s n hj,eNuLd (x:=lqZ G) n hj]
theorem tg_end (n N:Nat) (G:Nat→Gn) (a:GQ) (g:FuncId) (β0:Env) (w:World) {c:GQ} (hc:GSz KM c):tgH n g c β0 w (tgC n N G a g n c [.eqv 28 (.bool (decide ((n:Int)<(n:Int)))) (.bool false) (by rw [decide_eq_false (by omega)]),(sTold (hc.mono (by decide))).e]) :=
 last_ok (Ns:=[]) (m:=400) hmA (fun β=>ok_of_maps (by kernel_rfl))
section
variable (n N:Nat) (G:Nat→Gn) (a:GQ) (β0:Env) (w:World)
theorem tg_stepAdd (r:GQ) {j:Nat} {c:GQ} (hj:j<n) (hc:GSz KM c) (hz:GSz KM (G j).z) {j2:Int} (hj2:IntKind.i64.wrap ((j:Int)+1)=j2) (k:tgH n 177 r β0 w (tgC n N G a 177 (j+1) (gadd c (G j).z) [])) (e2:j2=((j+1:Nat):Int)) :
  tgH n 177 r β0 w (tgC n N G a 177 j c (tgEl G hj++[(sAdd hc hz).e,.eqv 35 (.int .i64 (IntKind.i64.wrap ((j:Int)+1))) (.int .i64 ((j+1:Nat):Int)) (by rw [hj2,e2]),.cut])) :=
 piece_ok (Ns:=[]) (m:=400) [] [0,1,2,0,4,5,6,12,13] hmA (by kernel_rfl) (fun β=>ok_of_maps (by kernel_rfl)) k
theorem tg_loopAdd (hn:n≤1048576) (hc:∀ j,j≤n→GSz KM (lsAcc gadd a (lqZ G) j)) (hz:∀ j,j<n→GSz KM (G j).z):∀ (d j:Nat),j+d=n→tgH n 177 (lsAcc gadd a (lqZ G) n) β0 w (tgC n N G a 177 j (lsAcc gadd a (lqZ G) j) [])
 | 0,j,e=>by
  obtain rfl:j=n:=by omega
  exact hd_ev' (tg_end j N G a 177 β0 w (hc j (Nat.le_refl j)))
 | d+1,j,e=>hd_ev' (tg_stepAdd n N G a β0 w _ (by omega) (hc j (by omega)) (hz j (by omega)) (j2:=((j+1:Nat):Int)) (by rw [IntKind.wrap_i64]; omega) (tg_loopAdd hn hc hz d (j+1) (by omega)) rfl)
theorem tg_startAdd (r:GQ) (hN:n≤N) (hn:n≤4096) (h:∀ i,i<n→(G i).B=true) (hh:∀ (k:Nat) (t:Thing),(tgO N G a)[k]?=some t→t.D w (β0 k)) (k:tgH n 177 r β0 w (tgC n N G a 177 0 a [])):Calls Tryz.prog 184 ((tgA n 177).map (SV.den β0)).toArray w (Said Tryz.prog tgF 3 (gA2 r) [] β0 w) :=
 sx_cut (P:=Tryz.prog) (tgA n 177) [(lqT N G).ob,(ratT a.re).ob,(ratT a.im).ob] [(sOpenedL G hN (Nat.le_trans hn (by decide)) h).e,.eqv 23 (.bool (decide ((4096:Int)<(n:Int)))) (.bool false) (by rw [decide_eq_false (by omega)]),.cut] [] [] 400 (gA2 r) [] Tryz.func184 hmA (u:=3) (sl:=tgSl n 177 0) (ob:=[(lqT N G).ob,(ratT a.re).ob,(ratT a.im).ob,.dead,.box [.b (.z 7 0),.b (.z 8 0)] NUM,.box (lsX g0C) TG,(nuT (lqZ G) n n).ob,(ratT a.re).ob,(ratT a.im).ob]) (σ:=[0,1,2,0,3,4,5,1,2]) (p':=lpAt tgF 0) (by kernel_rfl) (fun β=>ok_of_maps (by kernel_rfl)) (by kernel_rfl) (by kernel_rfl) β0 w (fun i o ho=>by
  match i,ho with
  | 0,ho=>obtain rfl:=Option.some.inj ho; exact hh 0 _ rfl
  | 1,ho=>obtain rfl:=Option.some.inj ho; exact hh 1 _ rfl
  | 2,ho=>obtain rfl:=Option.some.inj ho; exact hh 2 _ rfl
  | i+3,ho=>cases ho) k
end
noncomputable def sTogAdd {n N:Nat} (G:Nat→Gn) {a:GQ} (hN:n≤N) (hn:n≤4096) (h:∀ i,i<n→(G i).B=true) (hc:∀ j,j≤n→GSz KM (lsAcc gadd a (lqZ G) j)):Spec Tryz.prog :=
 ⟨184,Tryz.call184,tgA n 177,tgO N G a,gA2 (lsAcc gadd a (lqZ G) n),[],fun β w hh=>(tg_startAdd n N G a β w _ hN hn h hh (tg_loopAdd n N G a β w (Nat.le_trans hn (by decide)) hc (fun j hj=>(gn_ok (h j hj)).1.gsz.mono (by decide)) n 0 (by omega))).mono fun e w' h=>said_0 h fun β' _=>rfl,by kernel_rfl⟩
noncomputable def sTogNoAdd {n N:Nat} (G:Nat→Gn) (a:GQ) (hN:n≤N) (hn:n≤4096) {i:Nat} (hi:i<n) (h:(G i).B=false) (h2:∀ k,k<i→(G k).B=true):Spec Tryz.prog :=
 Spec.auto Tryz.call184 (tgA n 177) (tgO N G a) (ga0 2) [] [(sOpenedLNo G hN (Nat.le_trans hn (by decide)) hi h h2).e] [] 800 Tryz.func184 hmA (by kernel_rfl) (fun β=>by kernel_rfl)
noncomputable def sGSum {n N:Nat} (G:Nat→Gn) (hN:n≤N) (hn:n≤4096) (h:∀ i,i<n→(G i).B=true) (hc:∀ j,j≤n→GSz KM (lsAcc gadd (gint 0 0) (lqZ G) j)):Spec Tryz.prog :=
 Spec.auto Tryz.call51 [lsSlc n] [lqT N G] (gA2 (lsAcc gadd (gint 0 0) (lqZ G) n)) [] [(sInt 0 0 (by decide) (by decide)).e,(sTogAdd G hN hn h hc).e] [] 800 Tryz.func51 hmA (by kernel_rfl) (fun β=>by kernel_rfl)
noncomputable def sGSumNo {n N:Nat} (G:Nat→Gn) (hN:n≤N) (hn:n≤4096) {i:Nat} (hi:i<n) (h:(G i).B=false) (h2:∀ k,k<i→(G k).B=true):Spec Tryz.prog :=
 Spec.auto Tryz.call51 [lsSlc n] [lqT N G] (ga0 2) [] [(sInt 0 0 (by decide) (by decide)).e,(sTogNoAdd G (gint 0 0) hN hn hi h h2).e] [] 800 Tryz.func51 hmA (by kernel_rfl) (fun β=>by kernel_rfl)
section
variable (n N:Nat) (G:Nat→Gn) (a:GQ) (β0:Env) (w:World)
theorem tg_stepMul (r:GQ) {j:Nat} {c:GQ} (hj:j<n) (hc:GSz KM c) (hz:GSz KM (G j).z) {j2:Int} (hj2:IntKind.i64.wrap ((j:Int)+1)=j2) (k:tgH n 167 r β0 w (tgC n N G a 167 (j+1) (gmul c (G j).z) [])) (e2:j2=((j+1:Nat):Int)) :
  tgH n 167 r β0 w (tgC n N G a 167 j c (tgEl G hj++[(sMul hc hz).e,.eqv 35 (.int .i64 (IntKind.i64.wrap ((j:Int)+1))) (.int .i64 ((j+1:Nat):Int)) (by rw [hj2,e2]),.cut])) :=
 piece_ok (Ns:=[]) (m:=400) [] [0,1,2,0,4,5,6,12,13] hmA (by kernel_rfl) (fun β=>ok_of_maps (by kernel_rfl)) k
theorem tg_loopMul (hn:n≤1048576) (hc:∀ j,j≤n→GSz KM (lsAcc gmul a (lqZ G) j)) (hz:∀ j,j<n→GSz KM (G j).z):∀ (d j:Nat),j+d=n→tgH n 167 (lsAcc gmul a (lqZ G) n) β0 w (tgC n N G a 167 j (lsAcc gmul a (lqZ G) j) [])
 | 0,j,e=>by
  obtain rfl:j=n:=by omega
  exact hd_ev' (tg_end j N G a 167 β0 w (hc j (Nat.le_refl j)))
 | d+1,j,e=>hd_ev' (tg_stepMul n N G a β0 w _ (by omega) (hc j (by omega)) (hz j (by omega)) (j2:=((j+1:Nat):Int)) (by rw [IntKind.wrap_i64]; omega) (tg_loopMul hn hc hz d (j+1) (by omega)) rfl)
theorem tg_startMul (r:GQ) (hN:n≤N) (hn:n≤4096) (h:∀ i,i<n→(G i).B=true) (hh:∀ (k:Nat) (t:Thing),(tgO N G a)[k]?=some t→t.D w (β0 k)) (k:tgH n 167 r β0 w (tgC n N G a 167 0 a [])):Calls Tryz.prog 184 ((tgA n 167).map (SV.den β0)).toArray w (Said Tryz.prog tgF 3 (gA2 r) [] β0 w) :=
 sx_cut (P:=Tryz.prog) (tgA n 167) [(lqT N G).ob,(ratT a.re).ob,(ratT a.im).ob] [(sOpenedL G hN (Nat.le_trans hn (by decide)) h).e,.eqv 23 (.bool (decide ((4096:Int)<(n:Int)))) (.bool false) (by rw [decide_eq_false (by omega)]),.cut] [] [] 400 (gA2 r) [] Tryz.func184 hmA (u:=3) (sl:=tgSl n 167 0) (ob:=[(lqT N G).ob,(ratT a.re).ob,(ratT a.im).ob,.dead,.box [.b (.z 7 0),.b (.z 8 0)] NUM,.box (lsX g0C) TG,(nuT (lqZ G) n n).ob,(ratT a.re).ob,(ratT a.im).ob]) (σ:=[0,1,2,0,3,4,5,1,2]) (p':=lpAt tgF 0) (by kernel_rfl) (fun β=>ok_of_maps (by kernel_rfl)) (by kernel_rfl) (by kernel_rfl) β0 w (fun i o ho=>by
  match i,ho with
  | 0,ho=>obtain rfl:=Option.some.inj ho; exact hh 0 _ rfl
  | 1,ho=>obtain rfl:=Option.some.inj ho; exact hh 1 _ rfl
  | 2,ho=>obtain rfl:=Option.some.inj ho; exact hh 2 _ rfl
  | i+3,ho=>cases ho) k
end
noncomputable def sTogMul {n N:Nat} (G:Nat→Gn) {a:GQ} (hN:n≤N) (hn:n≤4096) (h:∀ i,i<n→(G i).B=true) (hc:∀ j,j≤n→GSz KM (lsAcc gmul a (lqZ G) j)):Spec Tryz.prog :=
 ⟨184,Tryz.call184,tgA n 167,tgO N G a,gA2 (lsAcc gmul a (lqZ G) n),[],fun β w hh=>(tg_startMul n N G a β w _ hN hn h hh (tg_loopMul n N G a β w (Nat.le_trans hn (by decide)) hc (fun j hj=>(gn_ok (h j hj)).1.gsz.mono (by decide)) n 0 (by omega))).mono fun e w' h=>said_0 h fun β' _=>rfl,by kernel_rfl⟩
noncomputable def sTogNoMul {n N:Nat} (G:Nat→Gn) (a:GQ) (hN:n≤N) (hn:n≤4096) {i:Nat} (hi:i<n) (h:(G i).B=false) (h2:∀ k,k<i→(G k).B=true):Spec Tryz.prog :=
 Spec.auto Tryz.call184 (tgA n 167) (tgO N G a) (ga0 2) [] [(sOpenedLNo G hN (Nat.le_trans hn (by decide)) hi h h2).e] [] 800 Tryz.func184 hmA (by kernel_rfl) (fun β=>by kernel_rfl)
noncomputable def sGProduct {n N:Nat} (G:Nat→Gn) (hN:n≤N) (hn:n≤4096) (h:∀ i,i<n→(G i).B=true) (hc:∀ j,j≤n→GSz KM (lsAcc gmul (gint 1 0) (lqZ G) j)):Spec Tryz.prog :=
 Spec.auto Tryz.call52 [lsSlc n] [lqT N G] (gA2 (lsAcc gmul (gint 1 0) (lqZ G) n)) [] [(sInt 1 0 (by decide) (by decide)).e,(sTogMul G hN hn h hc).e] [] 800 Tryz.func52 hmA (by kernel_rfl) (fun β=>by kernel_rfl)
noncomputable def sGProductNo {n N:Nat} (G:Nat→Gn) (hN:n≤N) (hn:n≤4096) {i:Nat} (hi:i<n) (h:(G i).B=false) (h2:∀ k,k<i→(G k).B=true):Spec Tryz.prog :=
 Spec.auto Tryz.call52 [lsSlc n] [lqT N G] (ga0 2) [] [(sInt 1 0 (by decide) (by decide)).e,(sTogNoMul G (gint 1 0) hN hn hi h h2).e] [] 800 Tryz.func52 hmA (by kernel_rfl) (fun β=>by kernel_rfl)
end Go.Proofs.YtmfedaakeeiolaaGreat.Y
end
section
namespace Go.Proofs.YtmfedaakeeiolaaGreat
open Go.RowKit
set_option maxRecDepth 100000 in
theorem Lsh_any {w:World} {b o c p n k:Nat} (hz:Slot w b o 2) (hx:IntAt w c p (n:Int)) (hn:(dig n).length≤8589934592) (hk:k≤137438953472) :
  Calls Tryz.prog 343 #[.pointer (some ⟨b,o,none⟩),.pointer (some ⟨c,p,none⟩),.int .u64 (k:Int)] w fun e w'=>e=.returned (.pointer (some ⟨b,o,none⟩))∧IntAt w' b o ((n*2^k:Nat):Int)∧Touch w w' b o 2:=by
 obtain ⟨A,m,cap,hc0,hc1,hv,hlt⟩:=hx.open_
 rw [show decide ((n:Int)<0)=false by simp] at hc0
 rw [Int.natAbs_natCast] at hv
 have hm:=hv.len.1
 rw [← hm] at hn
 have HZ:=Lib.hid hz
 have HV:=Lib.hid hv
 have HC0:=Lib.hid hc0
 have HC1:=Lib.hid hc1
 clear hx hz hv hc0 hc1 hm
 go_enter Tryz.func343,Tryz.ntmps343
 go_wp2
 refine wp_region_acts 12 (fun w'=>Below w.heap.size w w') (fun w w'=>Below w.heap.size w w') (fun i w v=>match i with
   | 0=>v=.pointer (some ⟨b,o,none⟩)
   | 1=>v=.pointer (some ⟨c,p,none⟩)
   | 2=>v=.pointer (some ⟨c,p,none⟩)
   | 3=>v=.pointer (some ⟨c,p,none⟩)
   | 4=>v=.bool false
   | 5=>v=.pointer (some ⟨c,p,none⟩)
   | 6=>v=.pointer (some ⟨c,p,none⟩)
   | 7=>v=.pointer (some ⟨c,p+1,none⟩)
   | 8=>v=.slice A m cap
   | 9=>v=.int .u64 (k:Int)
   | 10=>v=.int .i64 (k:Int)
   | _=>∃ A' m' c',v=.slice A' m' c'∧Words w (.slice A' m' c') (dig (n*2^k))) (by kernel_rfl) (by kernel_rfl) (by kernel_rfl) ((Below.refl _ _).drew) (fun _ _=>Below.refl _ _) ?_ ⟨?_,?_,?_,?_,?_,?_,?_,?_,?_,?_,?_,?_,trivial⟩ ?_
 · intro i w1 w2 v hC hC2 hE hV
   match i with
   | 0=>exact hV
   | 1=>exact hV
   | 2=>exact hV
   | 3=>exact hV
   | 4=>exact hV
   | 5=>exact hV
   | 6=>exact hV
   | 7=>exact hV
   | 8=>exact hV
   | 9=>exact hV
   | 10=>exact hV
   | _+11=>obtain ⟨A',m',c',e,h⟩:=hV; exact ⟨A',m',c',e,h.below hE⟩
 · intro a' w' hag hC hd K hK
   have e0:a'.tmps.getD 0 undef=.pointer (some ⟨b,o,none⟩):=hag 0 rfl
   go_step
   exact hK _ _ hC (Below.refl _ _) rfl
 · intro a' w' hag hC hd K hK
   have e1:a'.tmps.getD 1 undef=.pointer (some ⟨c,p,none⟩):=hag 1 rfl
   go_step
   exact hK _ _ hC (Below.refl _ _) rfl
 · intro a' w' hag hC hd K hK
   have e8:a'.tmps.getD 8 undef=.pointer (some ⟨c,p,none⟩):=hd.1
   go_step
   exact hK _ _ hC (Below.refl _ _) rfl
 · intro a' w' hag hC hd K hK
   have e9:a'.tmps.getD 9 undef=.pointer (some ⟨c,p,none⟩):=hd.1
   go_step
   exact hK _ _ hC (Below.refl _ _) rfl
 · intro a' w' hag hC hd K hK
   have e10:a'.tmps.getD 10 undef=.pointer (some ⟨c,p,none⟩):=hd.1
   have hcell:w'.cell? ⟨c,p,none⟩=some (.bool false):=by rw [hC.cell (p:=⟨c,p,none⟩) hlt]; exact HC0.out
   have HC:=Lib.hid hC
   clear hC
   go_step
   exact hK _ _ HC.out (Below.refl _ _) rfl
 · intro a' w' hag hC hd K hK
   have e1:a'.tmps.getD 1 undef=.pointer (some ⟨c,p,none⟩):=hag 1 rfl
   go_step
   exact hK _ _ hC (Below.refl _ _) rfl
 · intro a' w' hag hC hd K hK
   have e12:a'.tmps.getD 12 undef=.pointer (some ⟨c,p,none⟩):=hd.1
   go_step
   exact hK _ _ hC (Below.refl _ _) rfl
 · intro a' w' hag hC hd K hK
   have e13:a'.tmps.getD 13 undef=.pointer (some ⟨c,p,none⟩):=hd.1
   go_step
   exact hK _ _ hC (Below.refl _ _) rfl
 · intro a' w' hag hC hd K hK
   have e14:a'.tmps.getD 14 undef=.pointer (some ⟨c,p+1,none⟩):=hd.1
   have hcell:w'.cell? ⟨c,p+1,none⟩=some (.slice A m cap):=by rw [hC.cell (p:=⟨c,p+1,none⟩) hlt]; exact HC1.out
   have HC:=Lib.hid hC
   clear hC
   go_step
   exact hK _ _ HC.out (Below.refl _ _) rfl
 · intro a' w' hag hC hd K hK
   have e2:a'.tmps.getD 2 undef=.int .u64 (k:Int):=hag 2 rfl
   go_step
   exact hK _ _ hC (Below.refl _ _) rfl
 · intro a' w' hag hC hd K hK
   have e16:a'.tmps.getD 16 undef=.int .u64 (k:Int):=hd.1
   go_step
   exact hK _ _ hC (Below.refl _ _) rfl
 · intro a' w' hag hC hd K hK
   have e15:a'.tmps.getD 15 undef=.slice A m cap:=hd.1
   have e17:a'.tmps.getD 17 undef=.int .i64 (k:Int):=hd.2.1
   go_step
   refine (left_any (HV.out.below hC) hn k hk).mono ?_
   rintro e w2 ⟨v,rfl,h1,h2⟩
   obtain ⟨A',m',c',rfl⟩:=h1.form
   rw [val_dig] at h1
   exact hK _ _ (hC.trans (h2.mono hC.size)) h2 ⟨_,_,_,rfl,h1⟩
 · intro u w' hC hall
   obtain ⟨u0,u1,u2,u3,u4,u5,u6,u7,u8,u9,u10,u11,_⟩:=hall
   have u0:u 0=.pointer (some ⟨b,o,none⟩):=u0
   have u1:u 1=.pointer (some ⟨c,p,none⟩):=u1
   have u2:u 2=.pointer (some ⟨c,p,none⟩):=u2
   have u3:u 3=.pointer (some ⟨c,p,none⟩):=u3
   have u4:u 4=.bool false:=u4
   have u5:u 5=.pointer (some ⟨c,p,none⟩):=u5
   have u6:u 6=.pointer (some ⟨c,p,none⟩):=u6
   have u7:u 7=.pointer (some ⟨c,p+1,none⟩):=u7
   have u8:u 8=.slice A m cap:=u8
   have u9:u 9=.int .u64 (k:Int):=u9
   have u10:u 10=.int .i64 (k:Int):=u10
   obtain ⟨A',m',c',eu11,hw'⟩:=u11
   have u11:u 11=.slice A' m' c':=eu11
   simp only [fillR,List.take_succ_cons,List.take_zero,Act.put,List.setIfInBounds_toArray,List.set_cons_succ,List.set_cons_zero,Nat.zero_add,Nat.reduceAdd,u0,u1,u2,u3,u4,u5,u6,u7,u8,u9,u10,u11]
   clear u0 u1 u2 u3 u4 u5 u6 u7 u8 u9 u10 u11
   have HW:=Lib.hid hw'
   have HC:=Lib.hid hC
   have hsl:=HZ.out.on hC
   clear hw' hC
   go_wp2_with (go_at_call 342; refine (is_any false hsl HW.out).mono ?_; rintro e w2 ⟨rfl,h1,h2⟩)
   go_ret
   rw [val_dig] at h1
   exact ⟨rfl,h1,(Touch.of_below HC.out _ _ _).trans h2⟩
set_option maxRecDepth 100000 in
theorem Rsh_any {w:World} {b o c p n k:Nat} (hz:Slot w b o 2) (hx:IntAt w c p (n:Int)) (hk:k≤1099511627776) :
  Calls Tryz.prog 345 #[.pointer (some ⟨b,o,none⟩),.pointer (some ⟨c,p,none⟩),.int .u64 (k:Int)] w fun e w'=>e=.returned (.pointer (some ⟨b,o,none⟩))∧IntAt w' b o ((n/2^k:Nat):Int)∧Touch w w' b o 2:=by
 obtain ⟨A,m,cap,hc0,hc1,hv,hlt⟩:=hx.open_
 rw [show decide ((n:Int)<0)=false by simp] at hc0
 rw [Int.natAbs_natCast] at hv
 have hm:m≤17179869184:=by have:=hv.len.1; have:=hv.2.1; omega
 have HZ:=Lib.hid hz
 have HV:=Lib.hid hv
 have HC0:=Lib.hid hc0
 clear hx hz hv
 go_enter Tryz.func345,Tryz.ntmps345
 go_wp2_with fail
 refine (right_any HV.out hm k hk).mono ?_
 rintro e w1 ⟨v,rfl,h1,h2⟩
 obtain ⟨A1,m1,c1,rfl⟩:=h1.form
 rw [val_dig] at h1
 have hd0:w1.cell? ⟨c,p,none⟩=some (.bool false):=by rw [h2.cell (p:=⟨c,p,none⟩) hlt]; exact HC0.out
 have hlt1:c<w1.heap.size:=Nat.lt_of_lt_of_le hlt h2.size
 have HD0:=Lib.hid hd0
 have HW:=Lib.hid h1
 have HB:=Lib.hid h2
 clear h1 h2 hc0 hc1 hd0
 go_wp2
 refine wp_region_acts 16 (fun w'=>Below w1.heap.size w1 w') (fun w w'=>Below w.heap.size w w') (fun i w v=>match i with
   | 0=>v=.pointer (some ⟨c,p,none⟩)
   | 1=>v=.pointer (some ⟨c,p,none⟩)
   | 2=>v=.pointer (some ⟨c,p,none⟩)
   | 3=>v=.bool false
   | 4=>v=.bool false
   | 5=>v=undef
   | 6=>v=undef
   | 7=>v=undef
   | 8=>v=undef
   | 9=>v=undef
   | 10=>v=undef
   | 11=>v=undef
   | 12=>v=undef
   | 13=>v=undef
   | 14=>v=undef
   | _=>v=.bool false) (by kernel_rfl) (by kernel_rfl) (by kernel_rfl) ((Below.refl _ _).drew) (fun _ _=>Below.refl _ _) ?_ ⟨?_,?_,?_,?_,?_,?_,?_,?_,?_,?_,?_,?_,?_,?_,?_,?_,trivial⟩ ?_
 · intro i w1 w2 v hC hC2 hE hV
   match i with
   | 0=>exact hV
   | 1=>exact hV
   | 2=>exact hV
   | 3=>exact hV
   | 4=>exact hV
   | 5=>exact hV
   | 6=>exact hV
   | 7=>exact hV
   | 8=>exact hV
   | 9=>exact hV
   | 10=>exact hV
   | 11=>exact hV
   | 12=>exact hV
   | 13=>exact hV
   | 14=>exact hV
   | _+15=>exact hV
 · intro a' w' hag hC hd K hK
   have e1:a'.tmps.getD 1 undef=.pointer (some ⟨c,p,none⟩):=hag 1 rfl
   go_step
   exact hK _ _ hC (Below.refl _ _) rfl
 · intro a' w' hag hC hd K hK
   have e15:a'.tmps.getD 15 undef=.pointer (some ⟨c,p,none⟩):=hd.1
   go_step
   exact hK _ _ hC (Below.refl _ _) rfl
 · intro a' w' hag hC hd K hK
   have e16:a'.tmps.getD 16 undef=.pointer (some ⟨c,p,none⟩):=hd.1
   go_step
   exact hK _ _ hC (Below.refl _ _) rfl
 · intro a' w' hag hC hd K hK
   have e17:a'.tmps.getD 17 undef=.pointer (some ⟨c,p,none⟩):=hd.1
   have hcell:w'.cell? ⟨c,p,none⟩=some (.bool false):=by rw [hC.cell (p:=⟨c,p,none⟩) hlt1]; exact HD0.out
   have HC:=Lib.hid hC
   clear hC
   go_step
   exact hK _ _ HC.out (Below.refl _ _) rfl
 · intro a' w' hag hC hd K hK
   have e18:a'.tmps.getD 18 undef=.bool false:=hd.1
   go_step
   exact hK _ _ hC (Below.refl _ _) rfl
 · intro a' w' hag hC hd
   exact ⟨fun hw=>Bool.noConfusion (hw.symm.trans (unwanted_of (j:=4) (d:=19) (b':=false) rfl rfl rfl hd.1 (by decide))),fun _=>rfl⟩
 · intro a' w' hag hC hd
   exact ⟨fun hw=>Bool.noConfusion (hw.symm.trans (unwanted_of (j:=4) (d:=19) (b':=false) rfl rfl rfl hd.1 (by decide))),fun _=>rfl⟩
 · intro a' w' hag hC hd
   exact ⟨fun hw=>Bool.noConfusion (hw.symm.trans (unwanted_of (j:=4) (d:=19) (b':=false) rfl rfl rfl hd.2.1 (by decide))),fun _=>rfl⟩
 · intro a' w' hag hC hd
   exact ⟨fun hw=>Bool.noConfusion (hw.symm.trans (unwanted_of (j:=4) (d:=19) (b':=false) rfl rfl rfl hd.2.2.1 (by decide))),fun _=>rfl⟩
 · intro a' w' hag hC hd
   exact ⟨fun hw=>Bool.noConfusion (hw.symm.trans (unwanted_of (j:=4) (d:=19) (b':=false) rfl rfl rfl hd.1 (by decide))),fun _=>rfl⟩
 · intro a' w' hag hC hd
   exact ⟨fun hw=>Bool.noConfusion (hw.symm.trans (unwanted_of (j:=4) (d:=19) (b':=false) rfl rfl rfl hd.2.1 (by decide))),fun _=>rfl⟩
 · intro a' w' hag hC hd
   exact ⟨fun hw=>Bool.noConfusion (hw.symm.trans (unwanted_of (j:=4) (d:=19) (b':=false) rfl rfl rfl hd.2.1 (by decide))),fun _=>rfl⟩
 · intro a' w' hag hC hd
   exact ⟨fun hw=>Bool.noConfusion (hw.symm.trans (unwanted_of (j:=4) (d:=19) (b':=false) rfl rfl rfl hd.2.1 (by decide))),fun _=>rfl⟩
 · intro a' w' hag hC hd
   exact ⟨fun hw=>Bool.noConfusion (hw.symm.trans (unwanted_of (j:=4) (d:=19) (b':=false) rfl rfl rfl hd.2.2.2.1 (by decide))),fun _=>rfl⟩
 · intro a' w' hag hC hd
   exact ⟨fun hw=>Bool.noConfusion (hw.symm.trans (unwanted_of (j:=4) (d:=19) (b':=false) rfl rfl rfl hd.2.1 (by decide))),fun _=>rfl⟩
 · intro a' w' hag hC hd K hK
   have e19:a'.tmps.getD 19 undef=.bool false:=hd.1
   have e29:a'.tmps.getD 29 undef=undef:=hd.2.1
   go_step
   exact hK _ _ hC (Below.refl _ _) rfl
 · intro u w' hC hall
   obtain ⟨u0,u1,u2,u3,u4,u5,u6,u7,u8,u9,u10,u11,u12,u13,u14,u15,_⟩:=hall
   have u0:u 0=.pointer (some ⟨c,p,none⟩):=u0
   have u1:u 1=.pointer (some ⟨c,p,none⟩):=u1
   have u2:u 2=.pointer (some ⟨c,p,none⟩):=u2
   have u3:u 3=.bool false:=u3
   have u4:u 4=.bool false:=u4
   have u5:u 5=undef:=u5
   have u6:u 6=undef:=u6
   have u7:u 7=undef:=u7
   have u8:u 8=undef:=u8
   have u9:u 9=undef:=u9
   have u10:u 10=undef:=u10
   have u11:u 11=undef:=u11
   have u12:u 12=undef:=u12
   have u13:u 13=undef:=u13
   have u14:u 14=undef:=u14
   have u15:u 15=.bool false:=u15
   simp only [fillR,List.take_succ_cons,List.take_zero,Act.put,List.setIfInBounds_toArray,List.set_cons_succ,List.set_cons_zero,Nat.zero_add,Nat.reduceAdd,u0,u1,u2,u3,u4,u5,u6,u7,u8,u9,u10,u11,u12,u13,u14,u15]
   clear u0 u1 u2 u3 u4 u5 u6 u7 u8 u9 u10 u11 u12 u13 u14 u15
   have HC:=Lib.hid hC
   have hc1:w'.cell? ⟨c,p,none⟩=some (.bool false):=by rw [hC.cell (p:=⟨c,p,none⟩) hlt1]; exact HD0.out
   have hsl:=(HZ.out.on HB.out).on hC
   have hw2:=HW.out.below hC
   clear hC
   go_wp2_with (go_at_call 342; refine (is_any false hsl hw2).mono ?_; rintro e w2 ⟨rfl,h1,h2⟩)
   go_ret
   rw [val_dig] at h1
   exact ⟨rfl,h1,((Touch.of_below HB.out _ _ _).trans (Touch.of_below HC.out _ _ _)).trans h2⟩
theorem newton_up (n R:Nat) (hR:0<R):n<((n/R+R)/2+1)*((n/R+R)/2+1):=by
 have h1:n<R*(n/R+1):=by have:=Nat.lt_mul_div_succ n hR; simpa [Nat.mul_add] using this
 generalize n/R=q at h1
 generalize hs:(q+R)/2=s
 have h2:q+1+R≤2*(s+1):=by omega
 refine Nat.lt_of_lt_of_le h1 ?_
 rcases Nat.le_total R (s+1) with h | h
 · obtain ⟨d,hd⟩:=Nat.exists_eq_add_of_le h
   rw [hd] at h2 ⊢
   have h3:q+1≤R+2*d:=by omega
   calc R*(q+1)≤R*(R+2*d):=Nat.mul_le_mul_left _ h3
    _≤(R+d)*(R+d):=by rw [Nat.mul_add,Nat.add_mul,Nat.mul_add,Nat.mul_add,Nat.mul_comm d R,Nat.mul_left_comm,Nat.two_mul]; omega
 · obtain ⟨d,hd⟩:=Nat.exists_eq_add_of_le h
   have h3:q+1+2*d≤R:=by omega
   rw [hd] at h2 ⊢
   have h4:q+1+d≤s+1:=by omega
   calc (s+1+d)*(q+1)=(s+1)*(q+1)+d*(q+1):=by rw [Nat.add_mul]
    _≤(s+1)*(q+1)+d*(s+1):=Nat.add_le_add_left (Nat.mul_le_mul_left _ (by omega)) _
    _=(s+1)*(q+1+d):=by rw [Nat.mul_add (s+1) (q+1) d,Nat.mul_comm d]
    _≤(s+1)*(s+1):=Nat.mul_le_mul_left _ h4
theorem newton_end (n R:Nat) (hR:0<R) (h:R≤(n/R+R)/2):R*R≤n:=by
 have h1:R≤n/R:=by omega
 exact Nat.le_trans (Nat.mul_le_mul_left _ h1) (Nat.mul_div_le n R)
theorem newton_pos (n R:Nat) (hn:0<n) (hR:0<R) (h:(n/R+R)/2<R):0<(n/R+R)/2:=by
 rcases Nat.lt_or_ge R 2 with h2 | h2
 · obtain rfl:R=1:=by omega
   rw [Nat.div_one] at h ⊢
   omega
 · generalize n/R=q at h ⊢
   omega
theorem okn_nat {m k:Nat} (h:m≤k) (hk:(dig k).length≤4294967296):Okn (m:Int):=by
 unfold Okn
 rw [Int.natAbs_natCast]
 exact Nat.le_trans (dig_len_mono _ _ h) hk
theorem cmpI_lt {a b:Nat} (h:a<b):cmpI (a:Int) (b:Int) = -1:=by
 unfold cmpI
 rw [if_pos (by omega)]
theorem cmpI_ge {a b:Nat} (h:b≤a):cmpI (a:Int) (b:Int)=0∨cmpI (a:Int) (b:Int)=1:=by
 unfold cmpI
 rw [if_neg (by omega)]
 by_cases k:(b:Int)<(a:Int)
 · rw [if_pos k]; exact .inr rfl
 · rw [if_neg k]; exact .inl rfl
theorem root_start {n L:Nat} (hn:0<n) (h:Bits n L):2^(L/2+1)≤4*n∧n<(2^(L/2+1)+1)*(2^(L/2+1)+1):=by
 have hL:0<L:=by
  rcases Nat.eq_zero_or_pos L with h0 | h0
  · subst h0; have:=h.1; simp at this; omega
  · exact h0
 have h1:=h.2 hL
 have h2:=h.1
 constructor
 · have h3:2^(L/2+1)≤2^(L-1+2):=Nat.pow_le_pow_right (by decide) (by omega)
   rw [show 2^(L-1+2)=2^(L-1)*4 from by rw [Nat.pow_add]] at h3
   exact Nat.le_trans h3 (by rw [Nat.mul_comm]; exact Nat.mul_le_mul_left _ h1)
 · have h3:2^L≤2^(L/2+1)*2^(L/2+1):=by
    rw [← Nat.pow_add]
    exact Nat.pow_le_pow_right (by decide) (by omega)
   have h4:2^(L/2+1)*2^(L/2+1)≤(2^(L/2+1)+1)*(2^(L/2+1)+1):=Nat.mul_le_mul (Nat.le_succ _) (Nat.le_succ _)
   omega
set_option maxHeartbeats 1600000 in
set_option maxRecDepth 100000 in
theorem Sqrt_any {w:World} {b o c p n:Nat} (hz:Slot w b o 2) (hx:IntAt w c p (n:Int)) (hn:(dig (5*n)).length≤4294967296) :
  Calls Tryz.prog 282 #[.pointer (some ⟨b,o,none⟩),.pointer (some ⟨c,p,none⟩)] w fun e w'=>e=.returned (.pointer (some ⟨b,o,none⟩))∧(∃ r:Nat,r*r≤n∧n<(r+1)*(r+1)∧IntAt w' b o (r:Int))∧Touch w w' b o 2:=by
 have HZ:=Lib.hid hz
 have HN:=Lib.hid hn
 rcases Nat.eq_zero_or_pos n with h0 | h0
 · subst h0
   have HX:Hid (IntAt w c p 0):=Lib.hid hx
   clear hz hx hn
   go_enter Tryz.func282,Tryz.ntmps282
   go_wp2_with fail
   refine (sign_any HX.out).mono ?_
   rw [Int.sign_zero]
   rintro e w1 ⟨rfl,rfl⟩
   go_wp2_with fail
   refine (is_any false HZ.out (Words.nil w)).mono ?_
   rintro e w2 ⟨rfl,h1,h2⟩
   have H1:=Lib.hid h1
   have H2:=Lib.hid h2
   clear h1 h2
   go_wp2
   go_ret
   exact ⟨rfl,⟨0,Nat.le_refl _,by decide,H1.out⟩,H2.out⟩
 · have HX:=Lib.hid hx
   have H0:=Lib.hid h0
   have hs:((n:Nat):Int).sign=1:=Int.sign_eq_one_of_pos (by omega)
   clear hz hx hn
   go_enter Tryz.func282,Tryz.ntmps282
   go_wp2_with fail
   refine (sign_any HX.out).mono ?_
   rw [hs]
   rintro e w1 ⟨rfl,rfl⟩
   clear hs h0
   go_wp2_with fail
   have HA:=Lib.hid ((Below.refl w.heap.size w).alloc (Nat.le_refl _) (.cells #[.bool false,.slice none 0 0] 211))
   have HS:=Lib.hid (IntAt.new w).slot
   refine (NewInt_any (n:=1) (by decide)).mono ?_
   rintro e w2 ⟨g1,rfl,hg1,h1,hb1⟩
   have H1:=Lib.hid h1
   have HS2:=Lib.hid (HS.out.on hb1)
   have HB2:=Lib.hid (HA.out.trans (hb1.mono HA.out.size))
   clear h1 hb1 hg1
   go_wp2_with fail
   refine (BitLen_any (HX.out.on HB2.out)).mono ?_
   rintro e w3 ⟨L,rfl,hL,hLb,hb2⟩
   rw [Int.natAbs_natCast] at hL
   obtain ⟨q,hq⟩:∃ q,q=L/2:=⟨_,rfl⟩
   have hqi:(L:Int)/2=(q:Int):=by omega
   have hqi2:(L:Int).tdiv 2=(q:Int):=by rw [Int.tdiv_eq_ediv_of_nonneg (by omega)]; exact hqi
   obtain ⟨k,hk⟩:∃ k,k=q+1:=⟨_,rfl⟩
   have hki:(q:Int)+1=(k:Int):=by omega
   have hkb:k≤274877906945:=by omega
   have hrs:=root_start H0.out hL
   rw [← hq,← hk] at hrs
   have HR:=Lib.hid hrs
   have H1b:=Lib.hid (H1.out.on hb2)
   have HS3:=Lib.hid (HS2.out.on hb2)
   have HB3:=Lib.hid (HB2.out.trans (hb2.mono HB2.out.size))
   have HKL:Hid (k≤137438953472):=by
    have h5:(dig n).length≤4294967296:=Nat.le_trans (dig_len_mono n (5*n) (by omega)) HN.out
    have h6:=dig_lt n
    rw [p32] at h6
    obtain ⟨E,hE⟩:∃ E:Nat,E=137438953472:=⟨_,rfl⟩
    have h7:n<2^E:=Nat.lt_of_lt_of_le h6 (Nat.pow_le_pow_right (by decide) (by omega))
    have h8:L≤E:=by
     rcases Nat.lt_or_ge E L with h9 | h9
     · have h10:=hL.2 (by omega)
       have h11:2^E≤2^(L-1):=Nat.pow_le_pow_right (by decide) (by omega)
       exact absurd (Nat.lt_of_lt_of_le h7 (Nat.le_trans h11 h10)) (Nat.lt_irrefl _)
     · exact h9
    clear h6 h7 hrs
    show k≤137438953472
    omega
   clear hb2 hL hrs hq hk
   go_wp2_with fail
   refine (Lsh_any (n:=1) (k:=k) HS3.out H1b.out (Nat.le_trans (dig_len_mono 1 (5*n) (by have:=H0.out; omega)) (Nat.le_trans HN.out (by decide))) HKL.out).mono ?_
   rintro e w4 ⟨rfl,h2,h3⟩
   rw [Nat.one_mul] at h2
   have H2:=Lib.hid h2
   have HB4:=Lib.hid (HB3.out.trans (h3.below (B:=w.heap.size) (Nat.le_refl _) HB3.out.size))
   clear h2 h3
   go_wp2
   go_loopg [5,6] (2^k) (fun m rv sv wr=>∃ (g R:Nat),rv=.pointer (some ⟨g,0,none⟩)∧R≤m∧Hid (w.heap.size≤g)∧Hid (0<R)∧Hid (R≤4*n)∧Hid (n<(R+1)*(R+1))∧Hid (IntAt wr g 0 (R:Int))∧Hid (Below w.heap.size w wr))
   case atStart=>exact ⟨w.heap.size,2^k,rfl,Nat.le_refl _,Nat.le_refl _,Nat.pow_pos (by decide),HR.out.1,HR.out.2,H2.out,HB4.out⟩
   case round =>
    obtain ⟨g,R,rfl,hRm,hg,hR0,hR4,hRn,hr,hb⟩:=hrel
    clear H1 HS HS2 HB2 HS3 HB3 H1b H2 HB4 HA
    go_wp2_with fail
    have hA:Below wr.heap.size wr (wr.alloc (.cells #[.bool false,.slice none 0 0] 211)):=(Below.refl _ _).alloc (Nat.le_refl _) _
    have hS:=(IntAt.new wr).slot
    have hxr:=HX.out.on hb.out
    refine (Quo_any hS (hxr.on hA) (hr.out.on hA) (by have:=hR0.out; omega) (okn_nat (k:=5*n) (by omega) HN.out)).mono ?_
    rintro e w5 ⟨rfl,h1,h2⟩
    have hq:((n:Nat):Int).tdiv ((R:Nat):Int)=((n/R:Nat):Int):=rfl
    rw [hq] at h1
    have B5:=hA.trans (h2.below (B:=wr.heap.size) (Nat.le_refl _) hA.size)
    have HB5:=Lib.hid B5
    have H5:=Lib.hid h1
    clear hA hS hxr h1 h2 B5 hq
    go_wp2_with fail
    have hdn:n/R≤n:=Nat.div_le_self _ _
    refine (Add_any H5.out.slot H5.out (hr.out.on HB5.out) (okn_nat (k:=5*n) (by omega) HN.out) (okn_nat (k:=5*n) (by have:=hR4.out; omega) HN.out)).mono ?_
    rintro e w6 ⟨rfl,h1,h2⟩
    rw [show ((n/R:Nat):Int)+((R:Nat):Int)=((n/R+R:Nat):Int) by omega] at h1
    have HB6:=Lib.hid (HB5.out.trans (h2.below (B:=wr.heap.size) (Nat.le_refl _) HB5.out.size))
    have H6:=Lib.hid h1
    clear h1 h2 hdn
    go_wp2_with fail
    refine (Rsh_any (k:=1) H6.out.slot H6.out (by decide)).mono ?_
    rintro e w7 ⟨rfl,h1,h2⟩
    rw [Nat.pow_one] at h1
    obtain ⟨S,hS⟩:∃ S,S=(n/R+R)/2:=⟨_,rfl⟩
    rw [← hS] at h1
    have HB7:=Lib.hid (HB6.out.trans (h2.below (B:=wr.heap.size) (Nat.le_refl _) HB6.out.size))
    have H7:=Lib.hid h1
    have HSS:=Lib.hid hS
    clear h1 h2 hS
    go_wp2_with fail
    refine (Cmp_any H7.out (hr.out.on HB7.out)).mono ?_
    rintro e w8 ⟨rfl,hb8⟩
    have HB8:=Lib.hid (HB7.out.trans (hb8.mono HB7.out.size))
    have H8:=Lib.hid (H7.out.on hb8)
    clear hb8
    rcases Nat.lt_or_ge S R with hlt | hge
    · rw [cmpI_lt hlt]
      go_wp2
      go_roundg S
      case measure=>exact Nat.lt_of_lt_of_le hlt hRm
      case rel =>
       have e:=HSS.out
       refine ⟨wr.heap.size,S,rfl,Nat.le_refl _,hb.out.size,?_,?_,?_,H8.out,hb.out.trans (HB8.out.mono hb.out.size)⟩
       · rw [Hid,e]; exact newton_pos n R H0.out hR0.out (e▸hlt)
       · exact Nat.le_trans (Nat.le_of_lt hlt) hR4.out
       · rw [Hid,e]; exact newton_up n R hR0.out
    · have hend:R*R≤n:=newton_end n R hR0.out (HSS.out▸hge)
      have HE:=Lib.hid hend
      have hzz:Slot w8 b o 2:=(HZ.out.on hb.out).on HB8.out
      have HZ8:=Lib.hid hzz
      have HR8:=Lib.hid (hr.out.on HB8.out)
      have HT:=Lib.hid (hb.out.trans (HB8.out.mono hb.out.size))
      clear hend hzz
      rcases cmpI_ge hge with h9 | h9
      all_goals
       rw [h9]
       go_wp2_with fail
       refine (set_any HZ8.out HR8.out).mono ?_
       rintro e w9 ⟨rfl,h1,h2⟩
       have K1:=Lib.hid h1
       have K2:=Lib.hid ((Touch.of_below HT.out b o 2).trans h2)
       clear h1 h2
       go_wp2
       go_ret
       exact ⟨rfl,⟨R,HE.out,hRn.out,K1.out⟩,K2.out⟩
end Go.Proofs.YtmfedaakeeiolaaGreat
end
section
namespace Go.Proofs.YtmfedaakeeiolaaGreat.Y
open Go Go.RowKit
set_option maxRecDepth 100000
noncomputable def sDiv1 {z w:GQ} (hz:FitG z) (hw:FitG w) (h0:gzero w=false):Spec Tryz.prog :=
 Spec.auto Tryz.call275 [nV 0,nV 2] (gM z++gM w) (.tup [nA 4,nI' 0]) (gT (gdiv z w)) [(sZero h0).e,(sDiv (hz.gsz.mono (by decide)) (hw.gsz.mono (by decide)) h0).e] [] 400 Tryz.func275 hmA (by kernel_rfl) (fun β=>by kernel_rfl)
noncomputable def sDiv0 (z:GQ) {w:GQ} (h0:gzero w=true):Spec Tryz.prog :=
 Spec.auto Tryz.call275 [nV 0,nV 2] (gM z++gM w) (.tup [nA 2,nI' 5]) [] [(sZero h0).e] [] 400 Tryz.func275 hmA (by kernel_rfl) (fun β=>by kernel_rfl)
noncomputable def sTwoDiv {z w:GQ} (hz:FitG z) (hw:FitG w) (h0:gzero w=false):Spec Tryz.prog :=
 Spec.auto Tryz.call273 [gS z,gS w,.one (.c (fnL 275))] [] (gA2 (gdiv z w)) [] [(sOpened hz hw).e,dIdx 168 (numR z w),dNum 168 (numR z w),dIdx 168 (numR z w),dNum 168 (numR z w),(sDiv1 hz hw h0).e,(sTold ((hz.gsz.div hw.gsz h0).mono (by decide))).e] [(4,12012013)] 800 Tryz.func273 hmA (by kernel_rfl) (fun β=>by kernel_rfl)
noncomputable def sTwoDiv0 {z w:GQ} (hz:FitG z) (hw:FitG w) (h0:gzero w=true):Spec Tryz.prog :=
 Spec.auto Tryz.call273 [gS z,gS w,.one (.c (fnL 275))] [] (ga0 5) [] [(sOpened hz hw).e,dIdx 168 (numR z w),dNum 168 (numR z w),dIdx 168 (numR z w),dNum 168 (numR z w),(sDiv0 z h0).e] [(4,10012013)] 800 Tryz.func273 hmA (by kernel_rfl) (fun β=>by kernel_rfl)
noncomputable def sGDiv {z w:GQ} (hz:FitG z) (hw:FitG w) (h0:gzero w=false):Spec Tryz.prog :=
 Spec.auto Tryz.call158 [gS z,gS w] [] (gA2 (gdiv z w)) [] [(sTwoDiv hz hw h0).e] [] 400 Tryz.func158 hmA (by kernel_rfl) (fun β=>by kernel_rfl)
noncomputable def sGDiv0 {z w:GQ} (hz:FitG z) (hw:FitG w) (h0:gzero w=true):Spec Tryz.prog :=
 Spec.auto Tryz.call158 [gS z,gS w] [] (ga0 5) [] [(sTwoDiv0 hz hw h0).e] [] 400 Tryz.func158 hmA (by kernel_rfl) (fun β=>by kernel_rfl)
abbrev bxI (n:Int):Ob:=.box [.b (.v (.int .i64 n))] 3
abbrev powL (k:Nat):Lf:=.f (.func 163) [] [.p k 0]
noncomputable def sPow1 {z:GQ} (h0:gzero z=true):OSpec Tryz.prog :=
 OSpec.auto Tryz.call163 [nV 0,.one (.c (.b (.p 2 0)))] [(ratM z.re).ob,(ratM z.im).ob,bxI (-1)] (.tup [nA 0,nI' 5]) [] [(sZero h0).e] [(6,3)] 800 Tryz.func163 hmA (by kernel_rfl) (fun β=>by kernel_rfl)
noncomputable def sMadePow1 {z:GQ} (h0:gzero z=true):OSpec Tryz.prog :=
 OSpec.auto Tryz.call277 [nV 0,nV 2,.one (.c (.b (.p 4 0)))] [(ratM z.re).ob,(ratM z.im).ob,(ratM z.re).ob,(ratM z.im).ob,.box [powL 5] FT1,bxI (-1)] (.tup [nA 0,nI' 5]) [] [(sPow1 h0).e] [] 400 Tryz.func277 hmA (by kernel_rfl) (fun β=>by kernel_rfl)
noncomputable def sTwoPow {z:GQ} (hz:FitG z) (h0:gzero z=true):OSpec Tryz.prog :=
 OSpec.auto Tryz.call273 [gS z,gS z,.one (.c madeL)] [.box [powL 1] FT1,bxI (-1)] (ga0 5) [] [(sOpened hz hz).e,dIdx 168 (numR z z),dNum 168 (numR z z),dIdx 168 (numR z z),dNum 168 (numR z z),(sMadePow1 h0).e] [(4,12012013)] 800 Tryz.func273 hmA (by kernel_rfl) (fun β=>by kernel_rfl)
noncomputable def sMadePow {z:GQ} (hz:FitG z) (h0:gzero z=true):OSpec Tryz.prog :=
 OSpec.auto Tryz.call162 [gS z,.one (.c (powL 0))] [bxI (-1)] (ga0 5) [] [(sTwoPow hz h0).e] [] 400 Tryz.func162 hmA (by kernel_rfl) (fun β=>by kernel_rfl)
noncomputable def sGPow {z:GQ} (hz:FitG z) (h0:gzero z=true):Spec Tryz.prog :=
 Spec.auto Tryz.call43 [gS z,.one (nI' (-1))] [] (ga0 5) [] [(sMadePow hz h0).e] [] 400 Tryz.func43 hmA (by kernel_rfl) (fun β=>by kernel_rfl)
theorem root_uniq {n a b:Nat} (h1:a*a≤n) (h2:n<(a+1)*(a+1)) (k1:b*b≤n) (k2:n<(b+1)*(b+1)):a=b:=by
 rcases Nat.lt_trichotomy a b with h | h | h
 · have:(a+1)*(a+1)≤b*b:=Nat.mul_le_mul h h
   omega
 · exact h
 · have:(b+1)*(b+1)≤a*a:=Nat.mul_le_mul h h
   omega
def eSqrt {m:Int} {n r:Nat} (i p k:Nat) (hm:m=(n:Int)) (h1:r*r≤n) (h2:n<(r+1)*(r+1)) (hn:(dig (5*n)).length≤4294967296):Ev Tryz.prog:=.fill 282 Tryz.call282 (fun β=>#[.pointer (some ⟨(β i).b,0,none⟩),.pointer ((β k).v 0)]) [(k,(intT m).ob)] i 2 p (intT (r:Int))
 (fun β w h ho hs=>by
  obtain ⟨b,hb,kb⟩:=needI (n:=m) (k:=k) h (by simp)
  simp only [hb.1]
  rw [hm] at kb
  refine (Sqrt_any hs kb hn).mono fun e w' ⟨he,⟨r',k1,k2,k3⟩,k4⟩=>?_
  rw [root_uniq h1 h2 k1 k2]
  exact ⟨he,⟨_,ho.at1,k3⟩,k4⟩)
def fSqrt {m:Int} {n r:Nat} (hm:m=(n:Int)) (h1:r*r≤n) (h2:n<(r+1)*(r+1)) (hn:(dig (5*n)).length≤4294967296):Ev Tryz.prog:=dyn2 fun i p k=>eSqrt i p k hm h1 h2 hn
def mkI:Ev Tryz.prog:=dynMk 211 2
theorem dig_small {n:Nat} (h:n<4294967296):(dig n).length≤4294967296:=Nat.le_trans (dig_len_le n 1 (by omega)) (by decide)
theorem cmp_root {x y:Rat} {t:Bool} (h:decide (x=y)=t):Value.bool (cmpQ x y==0)=.bool t:=by
 rw [← h]
 congr 1
 rw [Bool.eq_iff_iff,beq_iff_eq,decide_eq_true_iff]
 unfold cmpQ
 constructor
 · intro h
   by_cases a:x<y
   · rw [if_pos a] at h; exact absurd h (by decide)
   · by_cases b:y<x
     · rw [if_neg a,if_pos b] at h; exact absurd h (by decide)
     · exact Rat.le_antisymm (Rat.not_lt.1 b) (Rat.not_lt.1 a)
 · rintro rfl
   rw [if_neg Rat.lt_irrefl,if_neg Rat.lt_irrefl]
theorem nat_sign {m:Int} {n:Nat} (h:m=(n:Int)):Value.bool (decide (m.sign<0))=.bool false:=by
 rw [h]
 cases n<;>rfl
structure RootD (x:Rat) (n d a b:Nat):Prop where
 hn:x.num=(n:Int)
 hd:(x.den:Int)=(d:Int)
 a1:a*a≤n
 a2:n<(a+1)*(a+1)
 b1:b*b≤d
 b2:d<(b+1)*(b+1)
 sn:5*n<4294967296
 sd:5*d<4294967296
 b0:(b:Int)≠0
 sa:sz (a:Int)≤100
 sb:sz (b:Int)≤100
def sRoot {x:Rat} (hx:Sz KB x) {n d a b:Nat} (h:RootD x n d a b) {t:Bool} (ht:decide (Rat.divInt a b*Rat.divInt a b=x)=t):Spec Tryz.prog :=
 Spec.auto Tryz.call171 [rV 0] [ratT x] (.tup [.c (.b (.z 1 0)),.c (.b (.v (.bool t)))]) [ratT (Rat.divInt a b)]
  [nSign (x:=x) rfl,.eqv 9 (.bool (decide (x.num.sign<0))) (.bool false) (nat_sign h.hn),mkI,nNum x,fSqrt h.hn h.a1 h.a2 (dig_small h.sn),mkI,nDenom x,fSqrt h.hd h.b1 h.b2 (dig_small h.sd),mkR,fSetFrac h.b0 (Nat.le_trans h.sa (by decide)) (Nat.le_trans h.sb (by decide)),
   mkR,fMul ((sz_divInt h.b0 h.sa h.sb).mono (by decide)) ((sz_divInt h.b0 h.sa h.sb).mono (by decide)),nCmp (c:=cmpQ (Rat.divInt a b*Rat.divInt a b) x) (((sz_divInt h.b0 h.sa h.sb).mul (sz_divInt h.b0 h.sa h.sb)).mono (by decide)) hx rfl,.eqv 29 (.bool (cmpQ (Rat.divInt a b*Rat.divInt a b) x==0)) (.bool t) (cmp_root ht)]
  [] 800 Tryz.func171 hmA (by kernel_rfl) (fun β=>by kernel_rfl)
abbrev z20:GQ:=gint 2 0
theorem z20_fit:FitG z20:=fit_int (by decide) (by decide)
abbrev nrm20:Rat:=(gmul z20 (gconj z20)).re
abbrev rt20:Rat:=Rat.divInt (2:Nat) (1:Nat)
abbrev half12:Rat:=Rat.divInt 1 2
abbrev mid20:Rat:=(rt20+z20.re)*half12
theorem root_nrm20:RootD nrm20 4 1 2 1:=⟨by kernel_rfl,by kernel_rfl,by decide,by decide,by decide,by decide,by decide,by decide,by decide,by rw [sz_le]; decide,by rw [sz_le]; decide⟩
theorem root_mid20:RootD mid20 2 1 1 1:=⟨by kernel_rfl,by kernel_rfl,by decide,by decide,by decide,by decide,by decide,by decide,by decide,by rw [sz_le]; decide,by rw [sz_le]; decide⟩
theorem sz_half:Sz 8 half12:=sz_lit 1 2 (by decide) (by decide) (by decide)
theorem sz_rt20:Sz 8 rt20:=sz_lit 2 1 (by decide) (by decide) (by decide)
noncomputable def sSqrt20:Spec Tryz.prog :=
 Spec.auto Tryz.call168 [nV 0] (gM z20) (.tup [nA 0,nI' 7]) []
  [(sParts z20).e,(sConj z20).e,(sMul (z20_fit.gsz.mono (by decide)) (z20_fit.gsz.conj.mono (by decide))).e,(sParts (gmul z20 (gconj z20))).e,
   (sRoot ((z20_fit.gsz.mul z20_fit.gsz.conj).1.mono (by decide)) root_nrm20 (t:=true) (by kernel_rfl)).e,nNew 1 2 (by decide) (by decide) (by decide),mkR,mkR,fAdd (sz_rt20.mono (by decide)) (z20_fit.gsz.1.mono (by decide)),fMul ((sz_rt20.add z20_fit.gsz.1).mono (by decide)) (sz_half.mono (by decide)),
   (sRoot (((sz_rt20.add z20_fit.gsz.1).mul sz_half).mono (by decide)) root_mid20 (t:=false) (by kernel_rfl)).e] [(2,10)] 1200 Tryz.func168 hmA (by kernel_rfl) (fun β=>by kernel_rfl)
noncomputable def sMadeSqrt20:OSpec Tryz.prog :=
 OSpec.auto Tryz.call277 [nV 0,nV 2,.one (.c (.b (.p 4 0)))] ([(ratM z20.re).ob,(ratM z20.im).ob,(ratM z20.re).ob,(ratM z20.im).ob,.box [fnL 168] FT1]) (.tup [nA 0,nI' 7]) [] [sSqrt20.e] [] 400 Tryz.func277 hmA (by kernel_rfl) (fun β=>by kernel_rfl)
noncomputable def sTwoSqrt20:OSpec Tryz.prog :=
 OSpec.auto Tryz.call273 [gS z20,gS z20,.one (.c madeL)] [.box [fnL 168] FT1] (ga0 7) [] [(sOpened z20_fit z20_fit).e,dIdx 168 (numR z20 z20),dNum 168 (numR z20 z20),dIdx 168 (numR z20 z20),dNum 168 (numR z20 z20),sMadeSqrt20.e] [(4,11012013)] 800 Tryz.func273 hmA (by kernel_rfl) (fun β=>by kernel_rfl)
noncomputable def sMadeS20:Spec Tryz.prog :=
 Spec.auto Tryz.call162 [gS z20,.one (.c (fnL 168))] [] (ga0 7) [] [sTwoSqrt20.e] [] 400 Tryz.func162 hmA (by kernel_rfl) (fun β=>by kernel_rfl)
noncomputable def sGSqrt20:Spec Tryz.prog :=
 Spec.auto Tryz.call44 [gS z20] [] (ga0 7) [] [sMadeS20.e] [] 400 Tryz.func44 hmA (by kernel_rfl) (fun β=>by kernel_rfl)
def alOf (ob:List Ob) (j:Nat):Nat:=match ob[j]? with
 | some (.al i _)=>i
 | _=>0
def dynRf {P:Program} (f:Nat→Nat→Nat→Nat→Ev P):Ev P:=.dyn (fun o _ _=>isCallB o) fun _ xs ob=>lit ob.length fun n=>lit (ptOf (xs.getD 0 undefS)) fun j=>lit (alOf ob j) fun i=>lit (ptOf (xs.getD 2 undefS)) fun k=>f i j n k
theorem one_at {g:Pl} {b:Nat} (h:g.one) (k:At1 g b):b=g.b:=((k.2 g.b).1 ((h.1 _).2 rfl)).symm
def eRQuo {x y:Rat} (i j n k:Nat) (hx:Sz KB x) (hy:Sz KB y) (h0:y≠0):Ev Tryz.prog:=.refill 178 Tryz.call178 (fun β=>#[.pointer ((β j).v 0),.pointer ((β j).v 0),.pointer ((β k).v 0)]) [(j,(ratT x).ob),(k,(ratT y).ob)] i j 4 n (ratT (x/y))
 (fun β w h hji ho hs=>by
  obtain ⟨a,ha,ka⟩:=needP (x:=x) (k:=j) h (by simp)
  obtain ⟨b,hb,kb⟩:=needP (x:=y) (k:=k) h (by simp)
  have e:=one_at ho (hji▸ha)
  subst e
  simp only [ha.1,hb.1]
  exact fillP ho (rQuo_any hs ka kb (hx.okR2 (by decide)) (hy.okR2 (by decide)) h0))
def rQuo {x y:Rat} (hx:Sz KB x) (hy:Sz KB y) (h0:y≠0):Ev Tryz.prog:=dynRf fun i j n k=>eRQuo i j n k hx hy h0
def sEReal (x:Rat):Spec Tryz.prog :=
 Spec.auto Tryz.call176 [rV 0] [ratT x] (.one (.a [.b (.z 0 0),.b (.v (.pointer none))])) [] [] [] 100 Tryz.func176 hmA (by kernel_rfl) (fun β=>by kernel_rfl)
def sEInt (n m:Int) (hn : -9223372036854775808≤n∧n≤9223372036854775807) (hm : -9223372036854775808≤m∧m≤9223372036854775807):Spec Tryz.prog :=
 Spec.auto Tryz.call165 [.one (.c (.b (.v (.int .i64 n)))),.one (.c (.b (.v (.int .i64 m))))] [] (nV 0) [ratT (Rat.divInt n 1),ratT (Rat.divInt m 1)]
  [nNew n 1 hn (by decide) (by decide),nNew m 1 hm (by decide) (by decide)] [] 400 Tryz.func165 hmA (by kernel_rfl) (fun β=>by kernel_rfl)
abbrev z34:GQ:=gint (-3) 4
theorem z34_fit:FitG z34:=fit_int (by decide) (by decide)
abbrev nrm34:Rat:=(gmul z34 (gconj z34)).re
abbrev rt34:Rat:=Rat.divInt (5:Nat) (1:Nat)
abbrev mid34:Rat:=(rt34+z34.re)*half12
abbrev a34:Rat:=Rat.divInt (1:Nat) (1:Nat)
abbrev b34:Rat:=z34.im*half12
abbrev q34:GQ:=⟨b34/a34,0⟩
abbrev i01:GQ:=⟨Rat.divInt 0 1,Rat.divInt 1 1⟩
abbrev s34:GQ:=gadd ⟨a34,0⟩ (gmul q34 i01)
theorem root_nrm34:RootD nrm34 25 1 5 1:=⟨by kernel_rfl,by kernel_rfl,by decide,by decide,by decide,by decide,by decide,by decide,by decide,by rw [sz_le]; decide,by rw [sz_le]; decide⟩
theorem root_mid34:RootD mid34 1 1 1 1:=⟨by kernel_rfl,by kernel_rfl,by decide,by decide,by decide,by decide,by decide,by decide,by decide,by rw [sz_le]; decide,by rw [sz_le]; decide⟩
theorem sz_rt34:Sz 8 rt34:=sz_lit 5 1 (by decide) (by decide) (by decide)
theorem sz_a34:Sz 8 a34:=sz_lit 1 1 (by decide) (by decide) (by decide)
theorem a34_ne:a34≠0:=by
 have:decide (a34=0)=false:=by kernel_rfl
 exact of_decide_eq_false this
theorem sz_b34:Sz KB b34:=(z34_fit.gsz.2.mul sz_half).mono (by decide)
theorem sz_q34:GSz 2048 q34:=⟨((z34_fit.gsz.2.mul sz_half).div sz_a34 a34_ne).mono (by decide),sz_zero.mono (by decide)⟩
theorem sz_i01:GSz 8 i01:=⟨sz_lit 0 1 (by decide) (by decide) (by decide),sz_lit 1 1 (by decide) (by decide) (by decide)⟩
theorem sz_a340:GSz 8 ⟨a34,0⟩:=⟨sz_a34,sz_zero.mono (by decide)⟩
noncomputable def sSqrt34:Spec Tryz.prog :=
 Spec.auto Tryz.call168 [nV 0] (gM z34) (.tup [nA 2,nI' 0]) (gT s34)
  [(sParts z34).e,(sConj z34).e,(sMul (z34_fit.gsz.mono (by decide)) (z34_fit.gsz.conj.mono (by decide))).e,(sParts (gmul z34 (gconj z34))).e,
   (sRoot ((z34_fit.gsz.mul z34_fit.gsz.conj).1.mono (by decide)) root_nrm34 (t:=true) (by kernel_rfl)).e,nNew 1 2 (by decide) (by decide) (by decide),mkR,mkR,fAdd (sz_rt34.mono (by decide)) (z34_fit.gsz.1.mono (by decide)),fMul ((sz_rt34.add z34_fit.gsz.1).mono (by decide)) (sz_half.mono (by decide)),
   (sRoot (((sz_rt34.add z34_fit.gsz.1).mul sz_half).mono (by decide)) root_mid34 (t:=true) (by kernel_rfl)).e,nSign (x:=a34) (c:=1) (by kernel_rfl),mkR,fMul (z34_fit.gsz.2.mono (by decide)) (sz_half.mono (by decide)),
   (sEReal a34).e,rQuo sz_b34 (sz_a34.mono (by decide)) a34_ne,(sEReal (b34/a34)).e,(sEInt 0 1 (by decide) (by decide)).e,(sMul (sz_q34.mono (by decide)) (sz_i01.mono (by decide))).e,(sAdd (sz_a340.mono (by decide)) ((sz_q34.mul sz_i01).mono (by decide))).e] [(2,10)] 1200 Tryz.func168 hmA (by kernel_rfl) (fun β=>by kernel_rfl)
theorem s34_eq:s34=gint 1 2:=by
 have h1:decide (s34.re=(gint 1 2).re)=true:=by kernel_rfl
 have h2:decide (s34.im=(gint 1 2).im)=true:=by kernel_rfl
 exact congr (congrArg GQ.mk (of_decide_eq_true h1)) (of_decide_eq_true h2)
abbrev z12:GQ:=gint 1 2
theorem z12_fit:FitG z12:=fit_int (by decide) (by decide)
noncomputable def sMadeSqrt34:OSpec Tryz.prog :=
 OSpec.auto Tryz.call277 [nV 0,nV 2,.one (.c (.b (.p 4 0)))] ([(ratM z34.re).ob,(ratM z34.im).ob,(ratM z34.re).ob,(ratM z34.im).ob,.box [fnL 168] FT1]) (.tup [nA 5,nI' 0]) [s34.re,s34.im] [sSqrt34.e] [] 400 Tryz.func277 hmA (by kernel_rfl) (fun β=>by kernel_rfl)
noncomputable def sTwoSqrt34:OSpec Tryz.prog :=
 OSpec.auto Tryz.call273 [gS z34,gS z34,.one (.c madeL)] [.box [fnL 168] FT1] (gA2 s34) [] [(sOpened z34_fit z34_fit).e,dIdx 168 (numR z34 z34),dNum 168 (numR z34 z34),dIdx 168 (numR z34 z34),dNum 168 (numR z34 z34),sMadeSqrt34.e,(sTold (z:=s34) (by rw [s34_eq]; exact z12_fit.gsz.mono (by decide))).e] [(4,13012013)] 800 Tryz.func273 hmA (by kernel_rfl) (fun β=>by kernel_rfl)
noncomputable def sMadeS34:Spec Tryz.prog :=
 Spec.auto Tryz.call162 [gS z34,.one (.c (fnL 168))] [] (gA2 s34) [] [sTwoSqrt34.e] [] 400 Tryz.func162 hmA (by kernel_rfl) (fun β=>by kernel_rfl)
noncomputable def sGSqrt34:Spec Tryz.prog :=
 Spec.auto Tryz.call44 [gS z34] [] (gA2 s34) [] [sMadeS34.e] [] 400 Tryz.func44 hmA (by kernel_rfl) (fun β=>by kernel_rfl)
def sNum4 (k:Int):Spec Tryz.prog:=Spec.auto Tryz.call160 [.one (nI' k)] [] (.one (nI' k)) [] [] [] 400 Tryz.func160 hmA (by kernel_rfl) (fun β=>by kernel_rfl)
noncomputable def sR4Told (z:GQ):Spec Tryz.prog :=
 ⟨179,Tryz.call179,[gS z],[],gA2 z,[],fun β w hh=>by
  by_cases h:FitG z
  · rw [show gA2 z=.tup [.a (gC z),nI' 0] by show SV.tup [.a (gaC z),nI' (gaK z)]=_; rw [(ga_fit h).1,(ga_fit h).2]]
    exact spec_auto (evs:=[(sR4Fits z (iff_true_of h)).e]) (Ns:=[]) (m:=400) Tryz.func179 hmA (fun β=>by kernel_rfl) (by kernel_rfl) β w hh
  · rw [show gA2 z=.tup [.a g0C,nI' 4] by show SV.tup [.a (gaC z),nI' (gaK z)]=_; rw [(ga_not h).1,(ga_not h).2]]
    exact spec_auto (evs:=[(sR4Fits z (iff_false_of h)).e]) (Ns:=[]) (m:=400) Tryz.func179 hmA (fun β=>by kernel_rfl) (by kernel_rfl) β w hh,by kernel_rfl⟩
noncomputable def gaR (z:GQ):R4:=⟨gaB z,gaS z,false,gaD z⟩
noncomputable def gaR' (z:GQ):R4:=⟨gaB' z,gaS' z,false,gaD' z⟩
theorem geq_self2 (x y:R4):(x.eq x&&(y.eq y&&true))=true:=geq_self x y
def eqG0:Ev Tryz.prog:=eqEvG r40 r40 r40 r40 true (geq_self2 _ _)
noncomputable def sIs4 (z:GQ):Spec Tryz.prog :=
 Spec.auto Tryz.call46 [.one (.a (gaC z)),.one (nI' (gaK z)),tB' true,.one (nI' 0),gS z] [] (tB' true) []
  [(sR4Told z).e,eqEvG (gaR z) (gaR' z) (gaR z) (gaR' z) true (geq_self2 _ _),(sNum4 (gaK z)).e,.eqv 46 (.bool (gaK z==gaK z)) (.bool true) (ieq_self _)] [] 400 Tryz.func46 hmA (by kernel_rfl) (fun β=>by kernel_rfl)
def sIs4No (x y:R4):Spec Tryz.prog :=
 Spec.auto Tryz.call46 [.one (.a g0C),.one (nI' 2),tB' false,.one (nI' 0),.one (.a (rL x++rL y))] [] (tB' true) [] [eqG0,(sNum4 2).e] [] 400 Tryz.func46 hmA (by kernel_rfl) (fun β=>by kernel_rfl)
def sGM (g:Gp) {r:Bool} (h:g.B=r):Spec Tryz.prog :=
 (sGMay g.a.a g.b.a).as [g.C] (tB' r) (by
  show [SV.one (.a (g.a.a.C++g.b.a.C))]=[SV.one (.a (rL g.a.r++rL g.b.r))]
  rw [show g.a.a.C=rL g.a.r from g.a.e,show g.b.a.C=rL g.b.r from g.b.e]) (congrArg tB' h)
end Go.Proofs.YtmfedaakeeiolaaGreat.Y
end
section
namespace Go.Proofs.YtmfedaakeeiolaaGreat
open Go.RowKit
def pv (g:Nat):Value:=.pointer (some ⟨g,0,none⟩)
theorem ptr_info:(Tryz.prog.info? 272).map (fun i=>(i.zero,i.size,i.bytes))=some (some (.pointer none),1,8):=by kernel_rfl
def PRow (w:World) (base:Nat) (v:Value) (zs:List Nat):Prop:=w.ownsRow base 272 1 v zs.length (zs.map pv)
theorem PRow.nil (w:World) (base:Nat):PRow w base (.slice none 0 0) []:=by simpa [PRow] using World.ownsRow_nil w base 272 1
theorem PRow.alloc {w:World} {base:Nat} {v:Value} {zs:List Nat} (h:PRow w base v zs) (o:Obj):PRow (w.alloc o) base v zs:=World.ownsRow.alloc h o
theorem PRow.open_ {w:World} {base:Nat} {v:Value} {zs:List Nat} (h:PRow w base v zs) (h0:0<zs.length) :
  ∃ g cap,v=.slice (some ⟨g,0,none⟩) zs.length cap∧base≤g∧g<w.heap.size∧∀ i,i<zs.length→w.cell? ⟨g,i,none⟩=some (pv (zs.getD i 0)):=by
 obtain ⟨hlen,h2⟩:=h
 rcases h2 with ⟨rfl,h1⟩ | ⟨g,cap,cur,rfl,hg,hh,hc,_,hcs,ht⟩
 · omega
 · refine ⟨g,cap,rfl,hg,heap_some_lt hh,fun i hi=>?_⟩
   have h3:(cur.toList.take (zs.length*1))[i]?=(zs.map pv)[i]?:=by rw [ht]
   rw [List.getElem?_take_of_lt (by omega),List.getElem?_map,List.getElem?_eq_getElem hi] at h3
   rw [cell_of_row _ _ _ _ _ _ hh,← Array.getElem?_toList,h3,getD_in hi]
   rfl
theorem wpList_append_ptr {ops:Array Oper} {rest:List Oper} {o:Oper} {a:Act} {w:World} {Q:Exit→Act→World→Prop} (hg:o.guard=none) (s x:Operand)
  (ho:o.op=.call { callee:=.builtin .append,args:=#[s,x],argTypes:=#[288,288] })
  (base:Nat) (v:Value) (zs:List Nat) (hs:a.eval s=v) (hown:PRow w base v zs) (ad:Addr) (c:Nat) (y:Nat) (hx:a.eval x=.slice (some ad) 1 c) (hcell:w.cell? ad=some (pv y))
  (hlen:zs.length≤17179869184) (hbase:base≤w.heap.size)
  (hK:∀ v' w',PRow w' base v' (zs++[y])→Below base w w'→w.grownBy w' v.ownBlock→wpList Tryz.prog ops Q rest (a.put o.dst v') w'):wpList Tryz.prog ops Q (o::rest) a w:=by
 obtain ⟨i0,hi,hz0,hz1,hz2⟩:=info_parts ptr_info
 refine wpList_append_own w hg s x 288 ho base 272 i0 (.pointer none) 1 8 Tryz.underlying288 hi hz0 hz1 hz2 rfl (by decide) v zs.length (zs.map pv) hs hown ad 1 c [pv y] hx rfl ?_ ?_ (by simp only [maxLen]; omega) (by omega) hbase ?_
 · intro j u hj
   cases j with
   | zero =>
    simp at hj
    subst hj
    simpa [Addr.add] using hcell
   | succ j=>simp at hj
 · intro u hu
   simp at hu
   subst hu
   rfl
 · intro v' w' h1 h2 _
   refine hK v' w' (by simpa [PRow] using h1) ((Below.refl _ _).grown h2 hbase fun k hk=>?_) h2
   · rcases hown.2 with ⟨rfl,_⟩ | ⟨g,cap,cur,rfl,hb,_⟩
     · simp [Value.ownBlock] at hk
     · simp [Value.ownBlock] at hk
       omega
def OfPost (b:Bool) (s:ByteArray) (w:World) (e:Ending) (w':World):Prop :=
 ((WholeOk b s∧∃ h cap p,e=.returned (.tuple #[.slice (some ⟨h,0,none⟩) 1 cap,.bool true])∧w'.cell? ⟨h,0,none⟩=some (.pointer (some ⟨p,0,none⟩))∧IntAt w' p 0 (numOf b s)) ∨
  (¬ WholeOk b s∧e=.returned (.tuple #[.slice none 0 0,.bool false])))∧Below w.heap.size w w'
def OfPost2 (b:Bool) (s:ByteArray) (w:World) (e:Ending) (w':World):Prop :=
 ((WholeOk b s∧∃ h cap p,e=.returned (.tuple #[.slice (some ⟨h,0,none⟩) 1 cap,.bool true])∧w'.cell? ⟨h,0,none⟩=some (.pointer (some ⟨p,0,none⟩))∧IntAt w' p 0 (numOf b s)∧Hid (w.heap.size≤h∧w.heap.size≤p)) ∨
  (¬ WholeOk b s∧e=.returned (.tuple #[.slice none 0 0,.bool false])))∧Below w.heap.size w w'
set_option maxHeartbeats 1600000 in
set_option maxRecDepth 100000 in
theorem of_one2 {w0:World} {a cap:Nat} (b:Bool) (s:ByteArray) (hs:s.size≤4294967296) {T:TypeId} (ha:BoxAt w0 a #[.bool b,.string s] T) :
  Calls Tryz.prog 325 #[.slice (some ⟨a,0,none⟩) 1 cap] w0 (OfPost2 b s w0):=by
 have hcv:=fun (w:World)=>run_bytes_of_string (P:=Tryz.prog) w 9 343 5 s Tryz.underlying9 Tryz.underlying343 Tryz.underlying5
 have HS:=Lib.hid hs
 have HS2:Hid (s.size≤maxLen):=by unfold Hid maxLen; omega
 have HX:=Lib.hid ha
 have hc0:=ha.cell 0 (.bool b) rfl
 have hc1:=ha.cell 1 (.string s) rfl
 clear hs ha
 go_enter Tryz.func325,Tryz.ntmps325
 go_wp2
 go_loopw [4,10] (fun v i wr=>Below w0.heap.size w0 wr∧((v=.slice none 0 0∧i=.int .i64 0)∨(WholeOk b s∧i=.int .i64 1∧∃ h cap p,v=.slice (some ⟨h,0,none⟩) 1 cap∧wr.cell? ⟨h,0,none⟩=some (.pointer (some ⟨p,0,none⟩))∧IntAt wr p 0 (numOf b s)∧Hid (w0.heap.size≤h∧w0.heap.size≤p)))) (fun _ i _=>1-(intOf i).toNat)
 case atStart=>exact ⟨Below.refl _ _,.inl ⟨rfl,rfl⟩⟩
 case round =>
  obtain ⟨hb,h | h⟩:=hrel
  · obtain ⟨rfl,rfl⟩:=h
    have HBR:=Lib.hid hb
    have hd0:=(HX.out.on hb).cell 0 (.bool b) rfl
    have hd1:=(HX.out.on hb).cell 1 (.string s) rfl
    have HN:=Lib.hid (BoxAt.new wr #[.bool b,.string s] 23)
    have HBN:=Lib.hid (below_new wr (.cells #[.bool b,.string s] 23))
    clear hb hc0 hc1
    go_wp2_with fail
    refine (Check_any b s HS2.out).mono ?_
    rintro e w1 ⟨k,rfl,hk,hb⟩
    have HB1:=Lib.hid ((HBR.out.trans (HBN.out.mono HBR.out.size)).trans (hb.mono (Nat.le_trans HBR.out.size HBN.out.size)))
    have HN1:=Lib.hid (HN.out.on hb)
    have hl1:wr.heap.size<w1.heap.size:=HN1.out.lt
    clear hb hd0 hd1
    by_cases ho:WholeOk b s
    · obtain rfl:k=0:=hk.elim (fun h=>h.1) (fun h=>absurd ho h.2)
      have HO:=Lib.hid ho
      have hn0:=HN1.out.cell 0 (.bool b) rfl
      have hn1:=HN1.out.cell 1 (.string s) rfl
      clear hk ho
      go_wp2_with fail
      generalize hW2:w1.alloc (.cells #[.bool false,.slice none 0 0] 211)=W2
      have hi:IntAt W2 w1.heap.size 0 0:=by rw [← hW2]; exact IntAt.new _
      have hx:BoxAt W2 wr.heap.size #[.bool b,.string s] 23:=by rw [← hW2]; exact HN1.out.on (below_new _ _)
      have hb:Below w1.heap.size w1 W2:=by rw [← hW2]; exact below_new _ _
      have hsz:w1.heap.size+1=W2.heap.size:=by rw [← hW2]; simp
      have hby:=byt_row (W:=W2) s (grownCap W2 s.size 0 5) (grownCap W2 s.size 0 5) (w1.heap.size+1) ((bytesRow s (grownCap W2 s.size 0 5)).size,(bytesRow s (grownCap W2 s.size 0 5)).size+1) hsz
      have hbl:=below_row W2 (bytesRow s (grownCap W2 s.size 0 5)) 5 ((bytesRow s (grownCap W2 s.size 0 5)).size,(bytesRow s (grownCap W2 s.size 0 5)).size+1)
      clear hW2
      generalize grownCap W2 s.size 0 5=c at hby hbl ⊢
      generalize (W2.alloc (.cells (bytesRow s c) 5 ((bytesRow s c).size,(bytesRow s c).size+1))).drew=W3 at hby hbl ⊢
      refine (SetBytes_any (hi.on hbl).slot hby HS.out).mono ?_
      rintro e w4 ⟨rfl,h1,h2⟩
      rw [List.reverse_reverse] at h1
      have HT:=Lib.hid (h2.below (B:=w1.heap.size) (Nat.le_refl _) (by have:=hbl.size; omega))
      have HB4:=Lib.hid ((hb.trans (hbl.mono hb.size)).trans HT.out)
      have hd0:w4.cell? ⟨wr.heap.size,0,none⟩=some (.bool b):=by rw [HB4.out.cell (by simp; omega)]; exact HN1.out.cell 0 _ rfl
      have HI:=Lib.hid h1
      have HBB:=Lib.hid (HB1.out.trans (HB4.out.mono HB1.out.size))
      clear h1 h2 hi hx hb hsz hby hbl hn0 hn1
      cases b
      · have HV:Hid (IntAt w4 w1.heap.size 0 (numOf false s)):=by
         have:=HI.out
         simpa [Hid,numOf,sg,num] using this
        go_wp2_with (at_builtin; refine wpList_append_ptr rfl (.tmp 32) (.tmp 34) rfl w0.heap.size _ [] rfl ((PRow.nil _ _).alloc _) ⟨w4.heap.size,0,none⟩ 1 w1.heap.size rfl (cell_new0 _ _ _) ?_ ?_ ?_)
        · exact Nat.zero_le _
        · have:=HBB.out.size; simp; omega
        intro v' w6 hrow hb6 hgr
        obtain ⟨h,cap2,rfl,hge,hlt,hcc⟩:=hrow.open_ (by simp)
        have HG:Hid (w0.heap.size≤h∧w0.heap.size≤w1.heap.size):=⟨hge,HB1.out.size⟩
        clear hge
        have HC:=Lib.hid (hcc 0 (by simp))
        have HB6:=Lib.hid ((HBB.out.trans ((below_new w4 (.cells #[.pointer (some ⟨w1.heap.size,0,none⟩)] 272)).mono HBB.out.size)).trans hb6)
        have HV6:=Lib.hid ((HV.out.on (below_new w4 (.cells #[.pointer (some ⟨w1.heap.size,0,none⟩)] 272))).on (Below.grown (Below.refl _ _) hgr (Nat.le_refl _) (fun k hk=>by simp [Value.ownBlock] at hk)))
        clear hrow hb6 hgr hcc
        go_wp2
        go_roundw
        case rel=>exact ⟨HB6.out,.inr ⟨HO.out,by go_num,h,cap2,_,rfl,HC.out,HV6.out,HG⟩⟩
        case measure=>simp [intOf]
      · go_wp2_with fail
        refine (neg_any HI.out.slot HI.out).mono ?_
        rintro e w5 ⟨rfl,h1,h2⟩
        have HV:Hid (IntAt w5 w1.heap.size 0 (numOf true s)):=by
         have:=h1
         simpa [Hid,numOf,sg,num] using this
        have HB5:=Lib.hid (HBB.out.trans (h2.below (B:=w0.heap.size) (by have:=HB1.out.size; omega) HBB.out.size))
        clear h1 h2 hd0
        go_wp2_with (at_builtin; refine wpList_append_ptr rfl (.tmp 32) (.tmp 34) rfl w0.heap.size _ [] rfl ((PRow.nil _ _).alloc _) ⟨w5.heap.size,0,none⟩ 1 w1.heap.size rfl (cell_new0 _ _ _) ?_ ?_ ?_)
        · exact Nat.zero_le _
        · have:=HB5.out.size; simp; omega
        intro v' w6 hrow hb6 hgr
        obtain ⟨h,cap2,rfl,hge,hlt,hcc⟩:=hrow.open_ (by simp)
        have HG:Hid (w0.heap.size≤h∧w0.heap.size≤w1.heap.size):=⟨hge,HB1.out.size⟩
        clear hge
        have HC:=Lib.hid (hcc 0 (by simp))
        have HB6:=Lib.hid ((HB5.out.trans ((below_new w5 (.cells #[.pointer (some ⟨w1.heap.size,0,none⟩)] 272)).mono HB5.out.size)).trans hb6)
        have HV6:=Lib.hid ((HV.out.on (below_new w5 (.cells #[.pointer (some ⟨w1.heap.size,0,none⟩)] 272))).on (Below.grown (Below.refl _ _) hgr (Nat.le_refl _) (fun k hk=>by simp [Value.ownBlock] at hk)))
        clear hrow hb6 hgr hcc
        go_wp2
        go_roundw
        case rel=>exact ⟨HB6.out,.inr ⟨HO.out,by go_num,h,cap2,_,rfl,HC.out,HV6.out,HG⟩⟩
        case measure=>simp [intOf]
    · obtain rfl:k=2:=hk.elim (fun h=>absurd h.2 ho) (fun h=>h.1)
      have HO:=Lib.hid ho
      clear hk ho
      go_wp2
      go_ret2
      exact ⟨.inr ⟨HO.out,rfl⟩,HB1.out⟩
  · obtain ⟨ho,rfl,h,cap2,p,rfl,hc,hi,HG⟩:=h
    have HO:=Lib.hid ho
    have HC:=Lib.hid hc
    have HI:=Lib.hid hi
    have HB:=Lib.hid hb
    clear ho hc hi hb hc0 hc1
    go_wp2
    go_ret2
    exact ⟨.inl ⟨HO.out,h,cap2,p,rfl,HC.out,HI.out,HG⟩,HB.out⟩
theorem of_one {w0:World} {a cap:Nat} (b:Bool) (s:ByteArray) (hs:s.size≤4294967296) {T:TypeId} (ha:BoxAt w0 a #[.bool b,.string s] T) :
  Calls Tryz.prog 325 #[.slice (some ⟨a,0,none⟩) 1 cap] w0 (OfPost b s w0) :=
 (of_one2 b s hs ha).mono fun e w' ⟨h,hb⟩=>⟨h.imp (fun ⟨ho,h,cap,p,h1,h2,h3,_⟩=>⟨ho,h,cap,p,h1,h2,h3⟩) id,hb⟩
theorem fracV_num {b c:Bool} {s t:ByteArray} {x:Rat} (h:FracParts b s c t x):WholeOk b s∧numOf b s=x.num:=by
 have h1:=(isFrac_parts h.isFrac).1
 obtain ⟨rfl,rfl,_,_⟩:=agg4 h.val
 exact ⟨h1,numOf_mag _⟩
theorem fracV_inj {x y:Rat} (h:fracV x=fracV y):x=y:=by
 obtain ⟨h1,h2,_,h4⟩:=agg4 h
 have e1:x.num=y.num:=sg_inj h1 (mag_inj h2)
 have e2:x.den=y.den:=mag_inj h4
 exact Rat.ext e1 e2
theorem sz_i64 {n:Int} (h : -9223372036854775808≤n∧n≤9223372036854775807):sz n≤8:=by
 rw [sz_le]
 have:n.natAbs≤9223372036854775808:=by omega
 exact Nat.lt_of_le_of_lt this (by decide)
theorem okn_i64 {n:Int} (h : -9223372036854775808≤n∧n≤9223372036854775807):Okn n:=okn_size (Nat.le_trans (sz_i64 h) (by decide))
set_option maxHeartbeats 1600000 in
set_option maxRecDepth 100000 in
theorem WText_any {w0:World} (b:Bool) (s:ByteArray) (hs:s.size≤4294967296) :
  Calls Tryz.prog 240 #[.agg #[.bool b,.string s]] w0 fun e w'=>∃ u k,e=.returned (.tuple #[.string u,.int .i64 k])∧(WholeOk b s∧u=textN (numOf b s)∧k=0∨¬ WholeOk b s∧u=⟨#[]⟩∧k=2)∧Below w0.heap.size w0 w':=by
 have HS:=Lib.hid hs
 have h1:=below_new w0 (.cells #[.bool b,.string s] 23)
 have h2:=below_new (w0.alloc (.cells #[.bool b,.string s] 23)) (.cells #[.bool b,.string s] 23)
 have HB:=Lib.hid (h1.trans (h2.mono h1.size))
 have HX:=Lib.hid (BoxAt.new_at (w:=w0.alloc (.cells #[.bool b,.string s] 23)) #[.bool b,.string s] 23 (size_alloc w0 _).symm)
 clear hs h1 h2
 go_enter Tryz.func240,Tryz.ntmps240
 go_wp2_with fail
 refine (of_one b s HS.out HX.out).mono ?_
 rintro e w1 ⟨h,hb⟩
 have HB1:=Lib.hid (HB.out.trans (hb.mono HB.out.size))
 clear hb
 rcases h with ⟨ho,g,cap,p,rfl,hc,hi⟩ | ⟨ho,rfl⟩
 · have HO:=Lib.hid ho
   have HI:=Lib.hid hi
   have KT:Hid (Okt (numOf b s)):=by
    have h3:(mag (numOf b s).natAbs).size≤16384:=by rw [(numOf_ok ho).2.1]; exact ho.2
    have:=wl_size h3
    unfold Hid Okt
    omega
   clear ho hi
   go_wp2_with fail
   refine (String_any HI.out KT.out).mono ?_
   rintro e w2 ⟨rfl,hb⟩
   have HB2:=Lib.hid (HB1.out.trans (hb.mono HB1.out.size))
   clear hb hc
   go_wp2
   go_ret2
   exact ⟨_,_,rfl,.inl ⟨HO.out,rfl,rfl⟩,HB2.out⟩
 · have HO:=Lib.hid ho
   clear ho
   go_wp2
   go_ret2
   exact ⟨_,_,rfl,.inr ⟨HO.out,rfl,rfl⟩,HB1.out⟩
theorem textN_len (n:Int):(textN n).size≤32*(dig n.natAbs).length+1:=by
 rw [textN_size]
 unfold txt
 have:=dd_len_words n.natAbs
 split
 · simp
 · rw [List.length_reverse,List.length_append]
   split<;>simp<;>omega
theorem textN_small {n:Int} (h:(mag n.natAbs).size≤16384):(textN n).size≤200000:=by
 have h1:=textN_len n
 have h2:=wl_size h
 omega
def textQ (x:Rat):ByteArray:=if x.den=1 then textN x.num else textN x.num++(⟨#[47]⟩++textN (x.den:Int))
def TextAns (va:Value) (u:ByteArray) (k:Int):Prop:=(∃ x,Fit x∧va=fracV x∧u=textQ x∧k=0)∨(¬ IsFrac va∧u=⟨#[]⟩∧k=2)
theorem parts_den {b c:Bool} {s t:ByteArray} {x:Rat} (h:FracParts b s c t x):c=false∧t=mag x.den∧WholeOk false t∧numOf false t=(x.den:Int):=by
 have h2:=(isFrac_parts h.isFrac).2.1
 obtain ⟨rfl,rfl,rfl,rfl⟩:=agg4 h.val
 refine ⟨rfl,rfl,h2,?_⟩
 have:=numOf_mag (x.den:Int)
 rwa [show decide ((x.den:Int)<0)=false by simp,Int.natAbs_natCast] at this
set_option maxHeartbeats 3200000 in
set_option maxRecDepth 100000 in
theorem FText_any {w0:World} (b c:Bool) (s t:ByteArray) (hs:s.size≤maxLen) (ht:t.size≤maxLen) :
  Calls Tryz.prog 110 #[.agg #[.bool b,.string s,.bool c,.string t]] w0 fun e w'=>∃ u k,e=.returned (.tuple #[.string u,.int .i64 k])∧TextAns (.agg #[.bool b,.string s,.bool c,.string t]) u k∧Below w0.heap.size w0 w':=by
 have HS:=Lib.hid hs
 have HT:=Lib.hid ht
 have HW0:=Lib.hid (below_new w0 (.cells #[.bool b,.string s,.bool c,.string t] 25))
 have HX0:=Lib.hid (BoxAt.new w0 #[.bool b,.string s,.bool c,.string t] 25)
 clear hs ht
 go_enter Tryz.func110,Tryz.ntmps110
 go_wp2_with fail
 refine (May_any b c s t HS.out HT.out).mono ?_
 rintro e w1 ⟨r,rfl,hr,hb⟩
 have HX1:=Lib.hid (HX0.out.on hb)
 have HW1:=Lib.hid (HW0.out.trans (hb.mono HW0.out.size))
 have HR:=Lib.hid hr
 clear hb hr
 cases r
 · go_wp2
   go_ret2
   exact ⟨_,_,rfl,.inr ⟨fun h=>Bool.noConfusion (HR.out.2 h),rfl,rfl⟩,HW1.out⟩
 obtain ⟨x,hx⟩:=parts_of (by first | exact HR.out.1 rfl | exact HR.out.1 trivial)
 have HX:=Lib.hid hx
 obtain ⟨rfl,ht2,ho2,hn2⟩:=parts_den hx
 have HT2:=Lib.hid ht2
 have HO2:=Lib.hid ho2
 have HN2:=Lib.hid hn2
 have hc0:=HX1.out.cell 0 (.bool b) rfl
 have hc1:=HX1.out.cell 1 (.string s) rfl
 clear hx HR ht2 ho2 hn2
 go_wp2_with fail
 refine (WText_any b s HX.out.hs).mono ?_
 rintro e w2 ⟨un,k,rfl,hu,hb⟩
 have HU:Hid (un=textN x.num):=by
  obtain ⟨h1,h2⟩:=fracV_num HX.out
  rcases hu with h | h
  · rw [← h2]; exact h.2.1
  · exact absurd h1 h.1
 have HX2:=Lib.hid (HX1.out.on hb)
 have HW2:=Lib.hid (HW1.out.trans (hb.mono HW1.out.size))
 clear hu hb hc0 hc1
 go_wp2
 refine wp_region_acts 4 (fun w'=>Below w0.heap.size w0 w'∧BoxAt w' w0.heap.size #[.bool b,.string s,.bool false,.string t] 25) (fun w w'=>Below w.heap.size w w') (fun i w v=>match i with
   | 0=>v=.pointer (some ⟨w0.heap.size,2,none⟩)
   | 1=>v=.agg #[.bool false,.string t]
   | 2=>∃ g,v=.pointer (some ⟨g,0,none⟩)∧IntAt w g 0 1
   | _=>∃ s',v=.agg #[.bool false,.string s']∧Hid (s'=mag 1)) (by kernel_rfl) (by kernel_rfl) (by kernel_rfl) ⟨HW2.out.drew,HX2.out⟩ (fun _ _=>(Below.refl _ _)) ?_ ⟨?_,?_,?_,?_,trivial⟩ ?_
 · intro i w1 w2 v hC hC2 hE hV
   match i with
   | 0=>exact hV
   | 1=>exact hV
   | 2=>obtain ⟨g,e,h⟩:=hV; exact ⟨g,e,h.on hE⟩
   | _+3=>exact hV
 · intro a' w' hag hC hd K hK
   have e1:a'.tmps.getD 1 undef=.pointer (some ⟨w0.heap.size,0,none⟩):=hag 1 rfl
   go_step
   exact hK _ _ hC ((Below.refl _ _)) rfl
 · intro a' w' hag hC hd K hK
   have e17:a'.tmps.getD 17 undef=.pointer (some ⟨w0.heap.size,2,none⟩):=hd.1
   have hc0:=hC.2.cell 2 (.bool false) rfl
   have hc1:=hC.2.cell 3 (.string t) rfl
   have HK:=Lib.hid (hK (.agg #[.bool false,.string t]) _ hC (Below.refl _ _) rfl)
   clear hK hC
   go_step
   exact HK.out
 · intro a' w' hag hC hd K hK
   go_step
   refine (NewInt_any (n:=1) (by decide)).mono ?_
   rintro e w2 ⟨g,rfl,hg,h1,h2⟩
   exact hK _ _ ⟨hC.1.trans (h2.mono hC.1.size),hC.2.on h2⟩ h2 ⟨_,rfl,h1⟩
 · intro a' w' hag hC hd K hK
   obtain ⟨g19,e19,h19⟩:=hd.1
   have e19:a'.tmps.getD 19 undef=.pointer (some ⟨g19,0,none⟩):=e19
   go_step
   refine (back_agg h19 (okn_i64 (by decide))).mono ?_
   rintro e w2 ⟨p,s',rfl,h1,h2,hb⟩
   have hp:p=false:=by rw [h1.out]; rfl
   subst hp
   exact hK _ _ ⟨hC.1.trans (hb.mono hC.1.size),hC.2.on hb⟩ hb ⟨s',rfl,h2⟩
 · intro u w' hC hall
   obtain ⟨u0,u1,u2,u3,_⟩:=hall
   have u0:u 0=.pointer (some ⟨w0.heap.size,2,none⟩):=u0
   have u1:u 1=.agg #[.bool false,.string t]:=u1
   obtain ⟨s20,eu3,hs20⟩:=u3
   have u3:u 3=.agg #[.bool false,.string s20]:=eu3
   simp only [fillR,List.take_succ_cons,List.take_zero,Act.put,List.setIfInBounds_toArray,List.set_cons_succ,List.set_cons_zero,Nat.zero_add,Nat.reduceAdd,u0,u1,u3]
   clear u0 u1 u3
   have HC:=Lib.hid hC.1
   have HX3:=Lib.hid hC.2
   clear hC
   by_cases hd:t.toList=s20.toList
   · have HD:Hid (x.den=1):=by
      have h1:=toList_inj.1 hd
      rw [HT2.out,hs20.out] at h1
      exact mag_inj h1
     go_wp2
     go_ret2
     exact ⟨_,_,rfl,.inl ⟨x,HX.out.fit,HX.out.val,by rw [textQ,if_pos HD.out]; exact HU.out,rfl⟩,HC.out⟩
   · have HD:Hid (¬ x.den=1):=fun e=>hd (by rw [HT2.out,hs20.out,e])
     have hc0:=HX3.out.cell 2 (.bool false) rfl
     have hc1:=HX3.out.cell 3 (.string t) rfl
     go_wp2_with fail
     refine (WText_any false t HX.out.ht).mono ?_
     rintro e w4 ⟨u2,k2,rfl,hu,hb⟩
     have HU2:Hid (u2=textN (x.den:Int)):=by
      rcases hu with h | h
      · rw [← HN2.out]; exact h.2.1
      · exact absurd HO2.out h.1
     have HB:=Lib.hid (HC.out.trans (hb.mono HC.out.size))
     have hu1:un.size≤200000:=by rw [HU.out]; exact textN_small (Nat.le_trans HX.out.fit.1 (by decide))
     have hu2:u2.size≤200000:=by rw [HU2.out]; exact textN_small (by rw [Int.natAbs_natCast]; exact Nat.le_trans HX.out.fit.2 (by decide))
     have hu3:((⟨#[47]⟩:ByteArray)++u2).size≤200001:=by rw [ByteArray.size_append]; show 1+u2.size≤_; omega
     clear hu hb hc0 hc1
     go_wp2
     go_ret2
     exact ⟨_,_,rfl,.inl ⟨x,HX.out.fit,HX.out.val,by rw [textQ,if_neg HD.out,← HU.out,← HU2.out],rfl⟩,HB.out⟩
end Go.Proofs.YtmfedaakeeiolaaGreat
end
section
namespace Go.Proofs.YtmfedaakeeiolaaGreat.Y
open Go Go.RowKit
set_option maxRecDepth 100000
def sFText {x:Rat} (h:Fit x) {u:ByteArray} (hu:textQ x=u):Spec Tryz.prog :=
 ⟨110,Tryz.call110,[.one (.a (fC x))],[],.tup [.c (.b (.v (.string u))),nI' 0],[],fun β w hh=>by
  refine (FText_any (decide (x.num<0)) false (mag x.num.natAbs) (mag x.den) (Nat.le_trans h.1 (by decide)) (Nat.le_trans h.2 (by decide))).mono ?_
  rintro e w' ⟨v,k,rfl,⟨y,_,hy,rfl,rfl⟩ | ⟨hn,_⟩,hb⟩
  · obtain rfl:x=y:=fracV_inj hy
    rw [hu]
    exact ⟨[],(fun _ h=>by cases h),rfl,trivial,hb⟩
  · exact absurd (fitF x h) hn,by kernel_rfl⟩
abbrev zb:GQ:=⟨Rat.divInt 1 2,Rat.divInt (-1) 2⟩
theorem zb_fit:FitG zb:=fit_small (by decide +kernel) (by decide +kernel) (by decide +kernel) (by decide +kernel)
theorem zb_eq:gdiv (gint 1 0) (gint 1 1)=zb:=by
 have h1:decide ((gdiv (gint 1 0) (gint 1 1)).re=zb.re)=true:=by kernel_rfl
 have h2:decide ((gdiv (gint 1 0) (gint 1 1)).im=zb.im)=true:=by kernel_rfl
 exact congr (congrArg GQ.mk (of_decide_eq_true h1)) (of_decide_eq_true h2)
abbrev tre:ByteArray:=⟨#[49,47,50]⟩
abbrev tim:ByteArray:=⟨#[45,49,47,50]⟩
theorem tre_eq:textQ zb.re=tre:=by kernel_rfl
theorem tim_eq:textQ zb.im=tim:=by kernel_rfl
noncomputable def sGTextB:Spec Tryz.prog :=
 Spec.auto Tryz.call159 [gS zb] [] (.tup [.c (.b (.v (.string ⟨#[49,47,50,45,49,47,50,105]⟩))),nI' 0]) []
  [(sGM (gpX zb zb_fit) (r:=true) rfl).e,(sFText zb_fit.1 tre_eq).e,(sFText zb_fit.2 tim_eq).e] [] 400 Tryz.func159 hmA (by kernel_rfl) (fun β=>by kernel_rfl)
noncomputable def sGRealNo (a:Gn) (h:a.B=false):Spec Tryz.prog :=
 Spec.auto Tryz.call161 [gnS a] [] (tB' false) [] [(sGM a.gp (r:=false) (a.gpB.trans h)).e] [(1,9)] 400 Tryz.func161 hmA (by kernel_rfl) (fun β=>by kernel_rfl)
theorem no_frac:¬ IsFrac (rawV false false ⟨#[]⟩ ⟨#[]⟩):=fun h=>by
 unfold rawV at h
 rw [isFrac_doc] at h
 exact absurd h.2.2.2.1 (by decide)
def noFr:Fr:=⟨r40,.no false false ⟨#[]⟩ ⟨#[]⟩ no_frac (by decide) (by decide),rfl⟩
def noGn:Gn:=.no ⟨noFr,frX (Rat.divInt 0 1) fit00.2⟩ rfl
theorem ga_eq {z w:GQ} (e:z=w) (h:FitG w):SV.tup [.a (gaC z),nI' (gaK z)]=.tup [.a (gC w),nI' 0]:=by
 rw [e,(ga_fit h).1,(ga_fit h).2]
theorem f11:FitG (gint 1 1):=fit_int (by decide) (by decide)
theorem f12:FitG (gint 1 2):=fit_int (by decide) (by decide)
theorem f31:FitG (gint 3 (-1)):=fit_int (by decide) (by decide)
theorem f55:FitG (gint 5 5):=fit_int (by decide) (by decide)
theorem mul55:gmul (gint 1 2) (gint 3 (-1))=gint 5 5:=by
 have h1:decide ((gmul (gint 1 2) (gint 3 (-1))).re=(gint 5 5).re)=true:=by kernel_rfl
 have h2:decide ((gmul (gint 1 2) (gint 3 (-1))).im=(gint 5 5).im)=true:=by kernel_rfl
 exact congr (congrArg GQ.mk (of_decide_eq_true h1)) (of_decide_eq_true h2)
noncomputable def kMul:Spec Tryz.prog:=(sGMul f12 f31).conv (.tup [.a (gC (gint 5 5)),nI' 0]) (ga_eq mul55 f55)
noncomputable def kDiv:Spec Tryz.prog:=(sGDiv fit10 f11 (by kernel_rfl)).conv (.tup [.a (gC zb),nI' 0]) (ga_eq zb_eq zb_fit)
noncomputable def kSq:Spec Tryz.prog:=sGSqrt34.conv (.tup [.a (gC (gint 1 2)),nI' 0]) (ga_eq s34_eq f12)
noncomputable def kDiv0:Spec Tryz.prog:=sGDiv0 fit10 fit00 (by kernel_rfl)
noncomputable def kPow:Spec Tryz.prog:=sGPow fit00 (by kernel_rfl)
def eqGz (z:GQ):Ev Tryz.prog:=eqEvG (fR z.re) (fR z.im) (fR z.re) (fR z.im) true (geq_self2 _ _)
noncomputable def sKnown4:Spec Tryz.prog :=
 Spec.auto Tryz.call42 [] [] (tB' true) []
  [(sR4Int 1 2).e,(sR4Int 3 (-1)).e,kMul.e,(sR4Int 1 0).e,(sR4Int 1 1).e,kDiv.e,(sR4Int (-3) 4).e,kSq.e,(sR4Int 2 0).e,sGSqrt20.e,sGTextB.e,(sR4Int 1 0).e,(sR4Int 0 0).e,kDiv0.e,(sR4Int 0 0).e,kPow.e,
   (sNum4 5).e,(sNum4 5).e,(sR4Int 0 0).e,(sGRealNo noGn rfl).e,(sR4Int 5 5).e,eqGz (gint 5 5),(sNum4 0).e,(sNum4 0).e,(sNum4 0).e,(sR4Int 1 2).e,eqGz (gint 1 2),(sNum4 0).e,(sNum4 7).e]
  [(8,53)] 3000 Tryz.func42 hmA (by kernel_rfl) (fun β=>by kernel_rfl)
def sR4MayG (a:Gn) {r:Bool} (h:a.B=r):Spec Tryz.prog :=
 (sR4May a.gp.a.a a.gp.b.a).as [gnS a] (tB' r) (by
  show [SV.one (.a (a.gp.a.a.C++a.gp.b.a.C))]=[SV.one (.a (rL a.gp.a.r++rL a.gp.b.r))]
  rw [show a.gp.a.a.C=rL a.gp.a.r from a.gp.a.e,show a.gp.b.a.C=rL a.gp.b.r from a.gp.b.e]) (congrArg tB' (a.gpB.trans h))
end Go.Proofs.YtmfedaakeeiolaaGreat.Y
end
