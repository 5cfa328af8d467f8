/- Wks, MkB, Row, Osp, GsB, CiA, CiB, CiE, G1, MtA, SyM, MtH, MaA, Mpp, MpJ, Open, OpnB, OpnD. -/
import Derived.Deep.MidRow
import Derived.ProofKit
import Derived.OpenShut
import Derived.ShutString
import Derived.ChangeOld
import Derived.Below
import Derived.Test.YtbepimnlleilfaaGreatOk12
set_option linter.unnecessarySimpa false
set_option linter.unusedVariables false
set_option linter.unusedSimpArgs false
section
namespace Go.Proofs.YtbepimnlleilfaaGreat
theorem jz_det:gzero (mdet ⟨gint 0 0,gint 2 0,gint 2 0,gint 0 0,false⟩)=false:=by kernel_rfl
def mJ:MQ:=⟨gint 0 0,gint 1 0,gint 1 0,gint 0 0,false⟩
theorem j_norm:mnorm ⟨gint 0 0,gint 2 0,gint 2 0,gint 0 0,false⟩=mJ:=mq_ext (gq_lit (by kernel_rfl) (by kernel_rfl)) (gq_lit (by kernel_rfl) (by kernel_rfl)) (gq_lit (by kernel_rfl) (by kernel_rfl)) (gq_lit (by kernel_rfl) (by kernel_rfl)) rfl
theorem j_inv:minv mJ=mJ:=mq_ext (gq_lit (by kernel_rfl) (by kernel_rfl)) (gq_lit (by kernel_rfl) (by kernel_rfl)) (gq_lit (by kernel_rfl) (by kernel_rfl)) (gq_lit (by kernel_rfl) (by kernel_rfl)) rfl
theorem j_fit:FitM mJ:=⟨fit_int (by decide) (by decide),fit_int (by decide) (by decide),fit_int (by decide) (by decide),fit_int (by decide) (by decide)⟩
theorem z2_fit:FitM ⟨gint 0 0,gint 2 0,gint 2 0,gint 0 0,false⟩:=⟨fit_int (by decide) (by decide),fit_int (by decide) (by decide),fit_int (by decide) (by decide),fit_int (by decide) (by decide)⟩
def gH:GQ:=⟨Rat.divInt 0 1,Rat.divInt (-1) 2⟩
theorem j_half:msend mJ (.fin (gint 0 2)) false=.fin gH:=congrArg Pt.fin (gq_lit (by kernel_rfl) (by kernel_rfl))
theorem j_msD:gzero (msD mJ (.fin (gint 0 2)))=false:=by kernel_rfl
theorem h_parts:gH.re.num=0∧gH.re.den=1∧gH.im.num = -1∧gH.im.den=2:=by decide +kernel
theorem h_fit:FitP (.fin gH):=fit_small (by rw [h_parts.1]; decide) (by rw [h_parts.2.1]; decide) (by rw [h_parts.2.2.1]; decide) (by rw [h_parts.2.2.2]; decide)
theorem h_cells:paC (.fin gH)=[.b (.v (.bool false)),.b (.v (.bool false)),.b (.v (.string ⟨#[]⟩)),.b (.v (.bool false)),.b (.v (.string ⟨#[1]⟩)),.b (.v (.bool true)),.b (.v (.string ⟨#[1]⟩)),.b (.v (.bool false)),.b (.v (.string ⟨#[2]⟩))]:=by
 rw [paC_raw,(pa_fit h_fit).1,(pa_fit h_fit).2.1,(pa_fit h_fit).2.2]
 show rawC false (fR gH.re) (fR gH.im)=_
 unfold fR
 rw [h_parts.1,h_parts.2.1,h_parts.2.2.1,h_parts.2.2.2,show (0:Int).natAbs=0 from rfl,show (-1:Int).natAbs=1 from rfl,mag_0,mag_1,mag_2]
 rfl
def mK:MQ:=⟨gint 0 0,gint (-2) 0,gint 1 0,gint (-2) 0,false⟩
theorem k_of:mof (pI 0 0) (pI 1 0) (pI 2 0) (pI 1 0) (pI 2 0) .inf false=mK:=mq_ext (gq_lit (by kernel_rfl) (by kernel_rfl)) (gq_lit (by kernel_rfl) (by kernel_rfl)) (gq_lit (by kernel_rfl) (by kernel_rfl)) (gq_lit (by kernel_rfl) (by kernel_rfl)) rfl
theorem k_fit:FitM mK:=⟨fit_int (by decide) (by decide),fit_int (by decide) (by decide),fit_int (by decide) (by decide),fit_int (by decide) (by decide)⟩
theorem k_six:Six (pI 0 0) (pI 1 0) (pI 2 0) (pI 1 0) (pI 2 0) .inf:=⟨pI_ne (by decide),pI_ne (by decide),pI_ne (by decide),pI_ne (by decide),(fun e=>by cases e),(fun e=>by cases e)⟩
theorem k_p6:P6 (pI 0 0) (pI 1 0) (pI 2 0) (pI 1 0) (pI 2 0) .inf FitP:=⟨pI_fit (by decide) (by decide),pI_fit (by decide) (by decide),pI_fit (by decide) (by decide),pI_fit (by decide) (by decide),pI_fit (by decide) (by decide),trivial⟩
end Go.Proofs.YtbepimnlleilfaaGreat
namespace Go.Proofs.YtbepimnlleilfaaGreat.Y
open Go Go.RowKit
set_option maxRecDepth 100000
theorem j_may:MayQ mJ:=⟨j_fit,by kernel_rfl,.inl (by kernel_rfl)⟩
abbrev q2 (n m:Int):Pt:=.fin (gint n m)
noncomputable def wkMake:Spec Tryz.prog :=
 (sMake (m:=⟨gint 0 0,gint 2 0,gint 2 0,gint 0 0,false⟩) z2_fit jz_det).as [gS (gint 0 0),gS (gint 2 0),gS (gint 2 0),gS (gint 0 0),tB' false] (.tup [.a (lsX (mC mJ)),nI' 0]) rfl (by
  show SV.tup [.a (lsX (maC (mnorm ⟨gint 0 0,gint 2 0,gint 2 0,gint 0 0,false⟩))),nI' (maK (mnorm ⟨gint 0 0,gint 2 0,gint 2 0,gint 0 0,false⟩))]=_
  rw [j_norm,(maC_fit j_fit).1,(maC_fit j_fit).2])
noncomputable def kwAt:Spec Tryz.prog :=
 (sAt j_may (p:=q2 0 2) (fit_int (by decide) (by decide)) j_msD).as [.one (.a (mCl mJ)),.one (.a (lsX (q2 0 2).w.C))] (.tup [.a [.b (.v (.bool false)),.b (.v (.bool false)),.b (.v (.string ⟨#[]⟩)),.b (.v (.bool false)),.b (.v (.string ⟨#[1]⟩)),.b (.v (.bool true)),.b (.v (.string ⟨#[1]⟩)),.b (.v (.bool false)),.b (.v (.string ⟨#[2]⟩))],nI' 0]) rfl (by
  show SV.tup [.a (lsX (paC (msend mJ (q2 0 2) false))),nI' (paK (msend mJ (q2 0 2) false))]=_
  rw [j_half,paK_fit h_fit,h_cells])
noncomputable def kInv:Spec Tryz.prog :=
 (sInv j_may).as [.one (.a (mCl mJ))] (.tup [.a (lsX (mC mJ)),nI' 0]) rfl (by
  show SV.tup [.a (lsX (maC (minv mJ))),nI' (maK (minv mJ))]=_
  rw [j_inv,(maC_fit j_fit).1,(maC_fit j_fit).2])
noncomputable def kOrd:Spec Tryz.prog:=sOrd2 j_may rfl (by kernel_rfl) (by kernel_rfl)
noncomputable def kOf:Spec Tryz.prog :=
 (sOf3 k_p6 false k_six).as [a3 (q2 0 0).w (q2 1 0).w (q2 2 0).w,a3 (q2 1 0).w (q2 2 0).w Pt.inf.w,tB false] (.tup [.a (lsX (mC mK)),nI' 0]) rfl (by
  show SV.tup [.a (lsX (maC (mof (q2 0 0) (q2 1 0) (q2 2 0) (q2 1 0) (q2 2 0) .inf false))),nI' (maK (mof (q2 0 0) (q2 1 0) (q2 2 0) (q2 1 0) (q2 2 0) .inf false))]=_
  rw [k_of,(maC_fit k_fit).1,(maC_fit k_fit).2])
def eqEvM1 (a a' b b' c c' d d':R4) (t:Bool):Ev Tryz.prog :=
 eqEv 48 (Go.Proofs.YtbepimnlleilfaaGreat.mV a a' b b' c c' d d' t) (Go.Proofs.YtbepimnlleilfaaGreat.mV a a' b b' c c' d d' t) true (by kernel_rfl) (fun w=>by
  have h:=eqM (w:=w) 9995 a a' b b' c c' d d' t a a' b b' c c' d d' t
  rw [geq_self,geq_self,geq_self,geq_self,show (t==t)=true from beq_self_eq_true t] at h
  exact h)
def eqMC1 (m:MQ):Ev Tryz.prog:=eqEvM1 (fR m.a.re) (fR m.a.im) (fR m.b.re) (fR m.b.im) (fR m.c.re) (fR m.c.im) (fR m.d.re) (fR m.d.im) m.t
noncomputable def nX (k:Int):Ev Tryz.prog:=(Spec.ofX (sNum8 k) rfl rfl).e
noncomputable def inX (n m:Int) (hn : -9223372036854775808≤n∧n≤9223372036854775807:=by decide) (hm : -9223372036854775808≤m∧m≤9223372036854775807:=by decide):Ev Tryz.prog:=(Spec.ofX (sIn8 n m hn hm) rfl rfl).e
noncomputable def atX (n m:Int) (hn : -9223372036854775808≤n∧n≤9223372036854775807:=by decide) (hm : -9223372036854775808≤m∧m≤9223372036854775807:=by decide):Ev Tryz.prog:=(Spec.ofX (sAt8 n m hn hm) rfl rfl).e
noncomputable def sWorks:Spec Tryz.prog :=
 Spec.auto Tryz.call26 [] [] (.one (.c (.b (.v (.bool true))))) []
  [inX 0 0,inX 2 0,inX 2 0,inX 0 0,wkMake.e,atX 0 2,kwAt.e,kInv.e,kOrd.e,atX 0 0,atX 1 0,atX 2 0,atX 1 0,atX 2 0,kOf.e,
   nX 0,nX 0,sTxtG.e,nX 0,eqMC1 mJ,nX 0,nX 0,inX 0 0,inX (-2) 0,inX 1 0,inX (-2) 0,eqMC1 mK] [(2,2007008),(6,48)] 1200 Tryz.func26 hmA (by kernel_rfl) (fun β=>by kernel_rfl)
end Go.Proofs.YtbepimnlleilfaaGreat.Y
end
section
namespace Go.Proofs.YtbepimnlleilfaaGreat.Y
open Go Go.RowKit
set_option maxRecDepth 100000
structure Lg4 (a b c d:Gn) (r:Bool):Prop where
 is:∃ x0 y0 x1 y1 x2 y2 x3 y3:Bool,LgF a.x x0∧LgF a.y y0∧LgF b.x x1∧LgF b.y y1∧LgF c.x x2∧LgF c.y y2∧LgF d.x x3∧LgF d.y y3∧(x0||(y0||(x1||(y1||(x2||(y2||(x3||y3)))))))=r
theorem Lg4.all (a b c d:Gn):∃ r,Lg4 a b c d r:=by
 obtain ⟨x0,h0⟩:=LgF.all a.x
 obtain ⟨y0,k0⟩:=LgF.all a.y
 obtain ⟨x1,h1⟩:=LgF.all b.x
 obtain ⟨y1,k1⟩:=LgF.all b.y
 obtain ⟨x2,h2⟩:=LgF.all c.x
 obtain ⟨y2,k2⟩:=LgF.all c.y
 obtain ⟨x3,h3⟩:=LgF.all d.x
 obtain ⟨y3,k3⟩:=LgF.all d.y
 exact ⟨_,⟨x0,y0,x1,y1,x2,y2,x3,y3,h0,k0,h1,k1,h2,k2,h3,k3,rfl⟩⟩
def sLong4 (T:TypeId) (a b c d:Gn) {r:Bool} (h:Lg4 a b c d r):BSpec Tryz.prog :=
 ⟨139,Tryz.call139,lgA,lgCells a.x a.y b.x b.y c.x c.y d.x d.y,T,.bool r,fun β w hh=>by
  obtain ⟨x0,y0,x1,y1,x2,y2,x3,y3,h0,k0,h1,k1,h2,k2,h3,k3,rfl⟩:=h.is
  exact long4_ok h0 k0 h1 k1 h2 k2 h3 k3 β w hh,by kernel_rfl,fun _=>rfl⟩
def adOf:SV→Nat × Nat
 | .one (.c (.b (.p k o)))=>(k,o)
 | _=>(0,0)
structure CSpec (P:Program) where
 f:FuncId
 en:Enters P f
 args:List SV
 cs:List Lf
 t:TypeId
 res:SV
 news:List Thing
 ok:∀ β w,(Ob.box cs t).holds β w (β 0)→Calls P f (args.map (SV.den β)).toArray w fun e w'=>∃ xs:List Pl,(∀ x∈xs,∀ c,x.F c→w.heap.size≤c)∧e=.returned (res.den (extE β 1 xs))∧newHold w' news xs∧Below w.heap.size w w'
 cl:(cs.all (Lf.of fun _=>false)&&args.all (SV.of fun k=>Nat.beq k 0)&&res.of fun k=>Nat.ble 1 k&&Nat.blt k (1+news.length))=true
def bkOfY:List SV→Nat
 | []=>0
 | .one (.c (.b (.s k _ _ _)))::_=>k
 | _::r=>bkOfY r
def CSpec.e {P:Program} (S:CSpec P):Ev P:=.dyn (fun o _ _=>isCallB o) fun _ xs ob=>lit (bkOfY xs) fun i=>lit ob.length fun n =>
 .call S.f S.en (fun β=>(S.args.map (SV.den fun _=>β i)).toArray) [(i,.box S.cs S.t)] n (S.res.ren fun k=>n+(k-1)) S.news (fun β w h=>by
  have hc:=S.cl
  simp only [Bool.and_eq_true] at hc
  have h1:(β i).one∧w.heap[(β i).b]?=some (.cells (S.cs.map (Lf.den β)).toArray S.t (0,0)):=h _ (List.mem_singleton.2 rfl)
  refine (S.ok (fun _=>β i) w ?_).mono fun e w' ⟨xs,k1,k2,k3,k4⟩=>⟨xs,fun x hx c hc=>.inl (k1 x hx c hc),?_,k3,k4⟩
  · show (β i).one∧w.heap[(β i).b]?=some (.cells (S.cs.map (Lf.den fun _=>β i)).toArray S.t (0,0))
    rw [show S.cs.map (Lf.den fun _=>β i)=S.cs.map (Lf.den β) from List.map_congr_left fun x hx=>Lf.den_congr (q:=fun _=>false) (fun k hk=>by cases hk) x (List.all_eq_true.1 hc.1.1 x hx)]
    exact h1
  · rw [k2,SV.den_ren]
    congr 1
    refine SV.den_congr (fun k hk=>?_) _ hc.2
    have hlen:=(newHold_get k3).1
    rw [Bool.and_eq_true,Nat.ble_eq,Nat.blt_eq] at hk
    have h5:k-1<xs.length:=by omega
    rw [extE_in (List.getElem?_eq_getElem h5)]
    have:=extE_in (β:=fun _=>β i) (n:=1) (List.getElem?_eq_getElem h5)
    rw [show 1+(k-1)=k by omega] at this
    exact this)
def Ob.ren (ρ:Nat→Nat):Ob→Ob
 | .box cs t=>.box (cs.map (Lf.ren ρ)) t
 | x=>x
def ptrB:Option Lf→Bool
 | some (.b (.z _ _))=>true
 | some (.b (.p _ _))=>true
 | some (.b (.v (.string _)))=>true
 | _=>false
def Ob.plainB:Ob→Bool
 | .box cs _=>Nat.blt cs.length 4||ptrB cs[1]?
 | .th _=>true
 | _=>false
theorem Ob.holds_ren {β:Env} {w:World} {g:Pl} {ρ:Nat→Nat}:∀ {o:Ob},o.plainB=true→(o.ren ρ).holds β w g→o.holds (fun k=>β (ρ k)) w g
 | .box cs t,_,h=>⟨h.1,by
  rw [h.2,List.map_map]
  rw [show (Lf.den β ∘ Lf.ren ρ)=Lf.den (fun k=>β (ρ k)) from funext fun x=>Lf.den_ren β ρ x]⟩
 | .th _,_,h=>h
theorem Ob.holds_cg {q:Nat→Bool} {β β':Env} {w:World} {g:Pl} (hq:∀ k,q k=true→β k=β' k):∀ {o:Ob},o.plainB=true→o.of q=true→o.holds β w g→o.holds β' w g
 | .box cs t,_,h,k=>⟨k.1,by rw [k.2,all_congr h (Lf.den_congr hq)]⟩
 | .th _,_,_,k=>k
structure OSpec (P:Program) where
 f:FuncId
 en:Enters P f
 args:List SV
 obs:List Ob
 res:SV
 news:List Rat
 ok:∀ β w,(∀ (k:Nat) (o:Ob),obs[k]?=some o→o.holds β w (β k))→Calls P f (args.map (SV.den β)).toArray w fun e w'=>∃ xs:List Pl,(∀ x∈xs,∀ c,x.F c→w.heap.size≤c∨∃ i o,obs[i]?=some o∧o.isTh=true∧(β i).F c)∧e=.returned (res.den (extE β obs.length xs))∧newHold w' (news.map ratT) xs∧Below w.heap.size w w'
 closed:(args.all (SV.of fun k=>Nat.blt k obs.length)&&obs.all (fun x=>x.of (fun k=>Nat.blt k obs.length)&&x.plainB)&&res.of fun k=>Nat.blt k (obs.length+news.length))=true
def mtBox (o c:Ob):List (Nat × Nat):=match o,c with
 | .box xs _,.box ys _=>mtLs xs ys
 | _,_=>[]
def mtObs (obs ob:List Ob):List (Nat × Nat)→List (Nat × Nat)
 | []=>[]
 | (k,j)::r=>(match obs[k]?,ob[j]? with | some o,some c=>mtBox o c | _,_=>[])++mtObs obs ob r
def sigO {P:Program} (S:OSpec P) (xs:List SV) (ob:List Ob):List Nat:=sigL (mtVs S.args xs++mtObs S.obs ob (mtVs S.args xs)) 0 S.obs.length
def needsO (σ:List Nat) (ρ:Nat→Nat):List Ob→Nat→List (Nat × Ob)
 | [],_=>[]
 | o::r,k=>(lit (σ.getD k 0) fun j=>j,o.ren ρ)::needsO σ ρ r (k+1)
theorem needsO_at {σ:List Nat} {ρ:Nat→Nat}:∀ {l:List Ob} {i k:Nat} {o:Ob},l[k]?=some o→(σ.getD (i+k) 0,o.ren ρ)∈needsO σ ρ l i
 | x::r,i,0,o,h=>by
  simp only [List.getElem?_cons_zero] at h
  obtain rfl:=Option.some.inj h
  unfold needsO
  rw [lit_eq]
  exact List.mem_cons_self ..
 | x::r,i,k+1,o,h=>by
  have:=needsO_at (σ:=σ) (ρ:=ρ) (l:=r) (i:=i+1) (k:=k) (o:=o) (by simpa using h)
  rw [show i+(k+1)=i+1+k by omega]
  exact List.mem_cons_of_mem _ this
def OSpec.ev {P:Program} (S:OSpec P) (σ:List Nat) (n:Nat) (hσ:(Nat.ble S.obs.length σ.length&&σ.all fun k=>Nat.blt k n)=true):Ev P :=
 .call S.f S.en (fun β=>(S.args.map (SV.den fun k=>β (atS σ S.obs.length n k))).toArray) (needsO σ (atS σ S.obs.length n) S.obs 0) n (S.res.ren (atS σ S.obs.length n)) (S.news.map ratT) fun β w h=>by
  have hc:=S.closed
  simp only [Bool.and_eq_true] at hc
  have hat:∀ k,k<S.obs.length→atS σ S.obs.length n k=σ.getD k 0:=fun k hk=>by
   unfold atS
   rw [lit_eq,show Nat.blt k S.obs.length=true by rw [Nat.blt_eq]; exact hk,cond_true]
  have hat2:∀ k,¬ k<S.obs.length→atS σ S.obs.length n k=n+(k-S.obs.length):=fun k hk=>by
   unfold atS
   rw [lit_eq,show Nat.blt k S.obs.length=false by rw [Bool.eq_false_iff,ne_eq,Nat.blt_eq]; exact hk,cond_false]
  rw [Bool.and_eq_true,Nat.ble_eq] at hσ
  have hsn:∀ k,k<S.obs.length→σ.getD k 0<n:=fun k hk=>by
   rw [List.getD_eq_getElem?_getD]
   cases hx:σ[k]? with
   | none=>rw [List.getElem?_eq_none_iff] at hx; omega
   | some y=>have:=List.all_eq_true.1 hσ.2 y (List.mem_of_getElem? hx); rw [Nat.blt_eq] at this; exact this
  have hq:∀ k,Nat.blt k S.obs.length=true→β (atS σ S.obs.length n k)=β (σ.getD k 0):=fun k hk=>by rw [hat k (by simpa [Nat.blt_eq] using hk)]
  have hargs:S.args.map (SV.den fun k=>β (atS σ S.obs.length n k))=S.args.map (SV.den fun k=>β (σ.getD k 0)):=List.map_congr_left fun x hx=>SV.den_congr hq _ (List.all_eq_true.1 hc.1.1 x hx)
  rw [hargs]
  refine (S.ok (fun k=>β (σ.getD k 0)) w fun k o hk=>?_).mono ?_
  · have ho:=List.all_eq_true.1 hc.1.2 o (List.mem_of_getElem? hk)
    rw [Bool.and_eq_true] at ho
    have hlt:k<S.obs.length:=(List.getElem?_eq_some_iff.1 hk).1
    have h1:(o.ren (atS σ S.obs.length n)).holds β w (β (σ.getD k 0)):=by
     have:=h _ (needsO_at (i:=0) hk)
     rwa [Nat.zero_add] at this
    exact Ob.holds_cg hq ho.2 ho.1 (Ob.holds_ren ho.2 h1)
  · rintro e w' ⟨xs,h1,rfl,h3,h4⟩
    refine ⟨xs,fun x hx c hc2=>?_,?_,h3,h4⟩
    · rcases h1 x hx c hc2 with h5 | ⟨i,o,h5,h6,h7⟩
      · exact .inl h5
      · refine .inr ⟨_,needsO_at (i:=0) h5,?_,?_⟩
        · cases o<;>first | exact h6 | cases h6
        · rw [Nat.zero_add]; exact h7
    · rw [SV.den_ren]
      congr 1
      refine SV.den_congr (fun k hk=>?_) _ hc.2
      have hlen:=(newHold_get h3).1
      rw [List.length_map] at hlen
      rw [Nat.blt_eq] at hk
      by_cases hk2:k<S.obs.length
      · rw [hat k hk2,extE_out (β:=β) (n:=n) (k:=σ.getD k 0) (xs:=xs) (by have:=hsn k hk2; omega),extE_out (n:=S.obs.length) (k:=k) (xs:=xs) (by omega)]
      · rw [hat2 k hk2]
        have h5:k-S.obs.length<xs.length:=by omega
        rw [extE_in (List.getElem?_eq_getElem h5)]
        have:=extE_in (β:=fun k=>β (σ.getD k 0)) (n:=S.obs.length) (List.getElem?_eq_getElem h5)
        rw [show S.obs.length+(k-S.obs.length)=k by omega] at this
        exact this
def OSpec.e {P:Program} (S:OSpec P):Ev P:=.dyn (fun o _ _=>isCallB o) fun _ xs ob =>
 lits (sigO S xs ob) fun σ=>lit ob.length fun n=>if h:(Nat.ble S.obs.length σ.length&&σ.all fun k=>Nat.blt k n)=true then S.ev σ n h else .eqv 0 undef undef rfl
abbrev gnS (a:Gn):SV:=.one (.a (rL a.x++rL a.y))
theorem _root_.Go.Proofs.YtbepimnlleilfaaGreat.FitG.gsz {z:GQ} (h:FitG z):GSz 1024 z:=⟨h.1.sz,h.2.sz⟩
abbrev KC:Nat:=1000000
structure RQ where
 a:Rat
 b:GQ
 c:Rat
structure RSz (k:Nat) (r:RQ):Prop where
 a:Sz k r.a
 b:GSz k r.b
 c:Sz k r.c
def rpow (r:RQ):Rat:=gnorm r.b-r.a*r.c
def rbyQ (i j:Bool) (r:RQ):Rat:=bif i then (bif j then r.b.im else r.b.re) else r.a
def rnm (r:RQ) (x:Rat):RQ:=⟨r.a*x⁻¹,gscale r.b x⁻¹,r.c*x⁻¹⟩
def FitC (m:RQ):Prop:=Fit m.a∧FitG m.b∧Fit m.c
section
variable {r:RQ} (h:RSz KC r) {i j:Bool} (hi:decide (r.a=0)=i) (hj:decide (r.b.re=0)=j) (h0:rbyQ i j r≠0)
include h hi hj h0
end
def rby (r:RQ):Rat:=rbyQ (decide (r.a=0)) (decide (r.b.re=0)) r
def rone (r:RQ):RQ:=rnm r (rby r)
inductive Fn where
 | ok (x:Rat) (h:Fit x)
 | no (f:Fr) (h:f.a.B=false)
def Fn.fr:Fn→Fr
 | .ok x h=>frX x h
 | .no f _=>f
def Fn.r (a:Fn):R4:=a.fr.r
structure MayC (r:RQ):Prop where
 fit:FitC r
 pow:decide ((rpow r).num.sign≤0)=false
 one:rone r=r
def sR4MayG (a:Gn) {r:Bool} (h:a.B=r):Spec Tryz.prog :=
 (sR4May a.gp.a.a a.gp.b.a).as [gnS a] (tB' r) (by
  show [SV.one (.a (a.gp.a.a.C++a.gp.b.a.C))]=[SV.one (.a (rL a.gp.a.r++rL a.gp.b.r))]
  rw [show a.gp.a.a.C=rL a.gp.a.r from a.gp.a.e,show a.gp.b.a.C=rL a.gp.b.r from a.gp.b.e]) (congrArg tB' (a.gpB.trans h))
structure CkNo (l:List Lf):Prop where
 cl:l.all (Lf.of fun _=>false)=true
 prog:∀ (β:Env) (w:World),Calls Tryz.prog 68 (([.one (.a l)]:List SV).map (SV.den β)).toArray w fun e w'=>e=.returned (.int .i64 2)∧Below w.heap.size w w'
 ref:∀ (β:Env) (w:World),Calls Tryz.prog 67 (([.one (.a l)]:List SV).map (SV.den β)).toArray w fun e w'=>e=.returned (.int .i64 2)∧Below w.heap.size w w'
inductive Cp where
 | ok (r:RQ) (h:MayC r)
 | no (a b b' c:R4) (h:CkNo (rL a++(rL b++rL b')++rL c))
def Cp.a:Cp→R4
 | .ok r _=>fR r.a
 | .no a _ _ _ _=>a
def Ob.renL (ρ:Nat→Nat):Ob→Ob
 | .box cs t=>.box (cs.map (Lf.ren ρ)) t
 | .row cs t n sz=>.row (cs.map (Lf.ren ρ)) t n sz
 | x=>x
theorem Ob.renL_holds {β:Env} {w:World} {g:Pl} {ρ:Nat→Nat}:∀ {o:Ob},(o.renL ρ).holds β w g↔o.holds (fun k=>β (ρ k)) w g
 | .box cs t=>by
  have h:(cs.map (Lf.ren ρ)).map (Lf.den β)=cs.map (Lf.den fun k=>β (ρ k)):=by
   rw [List.map_map]
   exact List.map_congr_left fun x _=>Lf.den_ren β ρ x
  show (g.one∧w.heap[g.b]?=some (.cells ((cs.map (Lf.ren ρ)).map (Lf.den β)).toArray t (0,0)))↔_
  rw [h]
  exact Iff.rfl
 | .row cs t n sz=>by
  have h:(cs.map (Lf.ren ρ)).map (Lf.den β)=cs.map (Lf.den fun k=>β (ρ k)):=by
   rw [List.map_map]
   exact List.map_congr_left fun x _=>Lf.den_ren β ρ x
  show (g.one∧∃ cur,w.heap[g.b]?=some (.cells cur t (0,0))∧(cs.map (Lf.ren ρ)).length=n*sz∧n≤g.c 0∧g.c 0≤maxLen∧cur.size=g.c 0*sz∧cur.toList.take (n*sz)=(cs.map (Lf.ren ρ)).map (Lf.den β))↔_
  rw [h,List.length_map]
  exact Iff.rfl
 | .th _=>Iff.rfl
 | .al _ _=>Iff.rfl
 | .pl _=>Iff.rfl
 | .ow _ _=>Iff.rfl
 | .dead=>Iff.rfl
structure MSpec (P:Program) where
 f:FuncId
 en:Enters P f
 args:List SV
 obs:List Thing
 a:Ob
 b:Ob
 res:SV
 news:List Thing
 ok:∀ β w,(∀ (k:Nat) (t:Thing),obs[k]?=some t→t.D w (β k))→a.holds β w (β obs.length)→Calls P f (args.map (SV.den β)).toArray w fun e w'=>∃ xs:List Pl,freshS β w obs.length xs∧e=.returned (res.den (extE β (obs.length+1) xs))∧newHold w' news xs∧b.holds (extE β (obs.length+1) xs) w' (β obs.length)∧TouchL w w' [(β obs.length).b]
 closed:(args.all (SV.of fun k=>Nat.blt k (obs.length+1))&&(a.of (fun k=>Nat.blt k (obs.length+1))&&(b.of (fun k=>Nat.blt k (obs.length+1+news.length))&&res.of fun k=>Nat.blt k (obs.length+1+news.length))))=true
def atM (σ:List Nat) (m n k:Nat):Nat:=lit (bif Nat.blt k (m+1) then σ.getD k 0 else n+(k-(m+1))) fun j=>j
def needsM (σ:List Nat):List Thing→Nat→List (Nat × Ob)
 | [],_=>[]
 | t::r,k=>lit (σ.getD k 0) fun j=>(j,t.ob)::needsM σ r (k+1)
theorem needsM_at {σ:List Nat}:∀ {l:List Thing} {i k:Nat} {t:Thing},l[k]?=some t→(σ.getD (i+k) 0,t.ob)∈needsM σ l i
 | x::r,i,0,t,h=>by
  simp only [List.getElem?_cons_zero] at h
  obtain rfl:=Option.some.inj h
  unfold needsM
  rw [lit_eq]
  exact List.mem_cons_self ..
 | x::r,i,k+1,t,h=>by
  have:=needsM_at (σ:=σ) (l:=r) (i:=i+1) (k:=k) (t:=t) (by simpa using h)
  unfold needsM
  rw [lit_eq,show i+(k+1)=i+1+k by omega]
  exact List.mem_cons_of_mem _ this
theorem Ob.holds_cgL {q:Nat→Bool} {β β':Env} {w:World} {g:Pl} (hq:∀ k,q k=true→β k=β' k) {o:Ob} (h:o.of q=true) (k:o.holds β w g):o.holds β' w g:=Ob.holds_congr hq o h k
def MSpec.ev {P:Program} (S:MSpec P) (σ:List Nat) (n:Nat) (hσ:(Nat.ble (S.obs.length+1) σ.length&&σ.all fun k=>Nat.blt k n)=true):Ev P :=
 .mut S.f S.en (fun β=>(S.args.map (SV.den fun k=>β (atM σ S.obs.length n k))).toArray) (needsM σ S.obs 0) [⟨lit (σ.getD S.obs.length 0) fun j=>j,S.a.renL (atM σ S.obs.length n),S.b.renL (atM σ S.obs.length n)⟩] n (S.res.ren (atM σ S.obs.length n)) S.news fun β w h hm=>by
  have hc:=S.closed
  simp only [Bool.and_eq_true] at hc
  obtain ⟨hc1,hc2,hc3,hc4⟩:=hc
  have hat:∀ k,k<S.obs.length+1→atM σ S.obs.length n k=σ.getD k 0:=fun k hk=>by
   unfold atM
   rw [lit_eq,show Nat.blt k (S.obs.length+1)=true by rw [Nat.blt_eq]; exact hk,cond_true]
  have hat2:∀ k,¬ k<S.obs.length+1→atM σ S.obs.length n k=n+(k-(S.obs.length+1)):=fun k hk=>by
   unfold atM
   rw [lit_eq,show Nat.blt k (S.obs.length+1)=false by rw [Bool.eq_false_iff,ne_eq,Nat.blt_eq]; exact hk,cond_false]
  rw [Bool.and_eq_true,Nat.ble_eq] at hσ
  have hsn:∀ k,k<S.obs.length+1→σ.getD k 0<n:=fun k hk=>by
   rw [List.getD_eq_getElem?_getD]
   cases hx:σ[k]? with
   | none=>rw [List.getElem?_eq_none_iff] at hx; omega
   | some y=>have:=List.all_eq_true.1 hσ.2 y (List.mem_of_getElem? hx); rw [Nat.blt_eq] at this; exact this
  have h1:=hm _ (List.mem_singleton.2 rfl)
  dsimp only at h1
  rw [lit_eq] at h1
  have hγ:atM σ S.obs.length n S.obs.length=σ.getD S.obs.length 0:=hat _ (by omega)
  refine (S.ok (fun k=>β (atM σ S.obs.length n k)) w (fun k t hk=>?_) ?_).mono ?_
  · have hlt:k<S.obs.length:=(List.getElem?_eq_some_iff.1 hk).1
    have:=h _ (needsM_at (i:=0) hk)
    rw [Nat.zero_add] at this
    show t.D w (β (atM σ S.obs.length n k))
    rw [hat k (by omega)]
    exact this
  · show S.a.holds (fun k=>β (atM σ S.obs.length n k)) w (β (atM σ S.obs.length n S.obs.length))
    rw [hγ]
    exact Ob.renL_holds.1 h1
  · rintro e w' ⟨xs,k1,rfl,k3,k4,k5⟩
    replace k4:S.b.holds (extE (fun k=>β (atM σ S.obs.length n k)) (S.obs.length+1) xs) w' (β (atM σ S.obs.length n S.obs.length)):=k4
    replace k5:TouchL w w' [(β (atM σ S.obs.length n S.obs.length)).b]:=k5
    rw [hγ] at k4 k5
    have hlen:=(newHold_get k3).1
    have hall:∀ k,Nat.blt k (S.obs.length+1+S.news.length)=true→extE (fun k=>β (atM σ S.obs.length n k)) (S.obs.length+1) xs k=extE β n xs (atM σ S.obs.length n k):=fun k hk=>by
     rw [Nat.blt_eq] at hk
     by_cases hk2:k<S.obs.length+1
     · have:=hsn k hk2
       rw [hat k hk2,extE_out (β:=β) (n:=n) (k:=σ.getD k 0) (xs:=xs) (by omega),extE_out (n:=S.obs.length+1) (k:=k) (xs:=xs) (by omega),hat k hk2]
     · rw [hat2 k hk2]
       have h5:k-(S.obs.length+1)<xs.length:=by omega
       rw [extE_in (List.getElem?_eq_getElem h5)]
       have:=extE_in (β:=fun k=>β (atM σ S.obs.length n k)) (n:=S.obs.length+1) (List.getElem?_eq_getElem h5)
       rw [show S.obs.length+1+(k-(S.obs.length+1))=k by omega] at this
       exact this
    refine ⟨xs,fun x hx c hc5=>?_,?_,k3,fun m hm2=>?_,?_⟩
    · rcases k1 x hx c hc5 with h5 | ⟨i,h5,h6⟩
      · exact .inl h5
      · refine .inr ⟨_,needsM_at (σ:=σ) (i:=0) (List.getElem?_eq_getElem h5),rfl,?_⟩
        rw [Nat.zero_add]
        have h7:(β (atM σ S.obs.length n i)).F c:=h6
        rw [hat i (by omega)] at h7
        exact h7
    · rw [SV.den_ren]
      congr 1
      exact SV.den_congr hall _ hc4
    · obtain rfl:=List.mem_singleton.1 hm2
      dsimp only
      rw [lit_eq]
      exact Ob.renL_holds.2 (Ob.holds_cgL hall hc3 k4)
    · rw [List.map_cons,List.map_nil]
      dsimp only
      rw [lit_eq]
      exact k5
def mtLay (o c:Ob):List (Nat × Nat):=match o,c with
 | .box xs _,.box ys _=>mtLs xs ys
 | .row xs _ _ _,.row ys _ _ _=>mtLs xs ys
 | _,_=>[]
def sigR {P:Program} (S:MSpec P) (xs:List SV) (ob:List Ob):List Nat :=
 sigL (mtVs S.args xs++(match ob[sigM (mtVs S.args xs) S.obs.length]? with | some c=>mtLay S.a c | none=>[])) 0 (S.obs.length+1)
def MSpec.e {P:Program} (S:MSpec P):Ev P:=.dyn (fun o _ _=>isCallB o) fun _ xs ob =>
 lits (sigR S xs ob) fun σ=>lit ob.length fun n=>if h:(Nat.ble (S.obs.length+1) σ.length&&σ.all fun k=>Nat.blt k n)=true then S.ev σ n h else .eqv 0 undef undef rfl
structure CRow (P:Program) where
 f:FuncId
 en:Enters P f
 args:List SV
 cs:List Lf
 t:TypeId
 row:Ob
 res:SV
 news:List Thing
 ok:∀ β w,(Ob.box cs t).holds β w (β 0)→Calls P f (args.map (SV.den β)).toArray w fun e w'=>∃ (g:Pl) (xs:List Pl),(w.heap.size≤g.b∧(∀ x∈xs,∀ c,x.F c→w.heap.size≤c)∧∀ x∈xs,¬ x.F g.b)∧e=.returned (res.den (extE β 1 (g::xs)))∧row.holds (extE β 1 (g::xs)) w' g∧newHold w' news xs∧Below w.heap.size w w'
 cl:(cs.all (Lf.of fun _=>false)&&(args.all (SV.of fun k=>Nat.beq k 0)&&(row.of (fun k=>Nat.ble 1 k&&Nat.blt k (2+news.length))&&res.of fun k=>Nat.ble 1 k&&Nat.blt k (2+news.length))))=true
def bkOfZ:List SV→Nat
 | []=>0
 | .one (.c (.b (.s k _ _ _)))::_=>k
 | _::r=>bkOfZ r
def CRow.e {P:Program} (S:CRow P):Ev P:=.dyn (fun o _ _=>isCallB o) fun _ xs ob=>lit (bkOfZ xs) fun i=>lit ob.length fun n =>
 .own S.f S.en (fun β=>(S.args.map (SV.den fun _=>β i)).toArray) [(i,.box S.cs S.t)] n (S.row.renL fun k=>n+(k-1)) (S.res.ren fun k=>n+(k-1)) S.news (fun β w h=>by
  have hc:=S.cl
  simp only [Bool.and_eq_true] at hc
  obtain ⟨c1,c2,c3,c4⟩:=hc
  have h1:(β i).one∧w.heap[(β i).b]?=some (.cells (S.cs.map (Lf.den β)).toArray S.t (0,0)):=h _ (List.mem_singleton.2 rfl)
  refine (S.ok (fun _=>β i) w ?_).mono ?_
  · show (β i).one∧w.heap[(β i).b]?=some (.cells (S.cs.map (Lf.den fun _=>β i)).toArray S.t (0,0))
    rw [show S.cs.map (Lf.den fun _=>β i)=S.cs.map (Lf.den β) from List.map_congr_left fun x hx=>Lf.den_congr (q:=fun _=>false) (fun k hk=>by cases hk) x (List.all_eq_true.1 c1 x hx)]
    exact h1
  · rintro e w' ⟨g,xs,⟨k1,k2,k3⟩,rfl,k5,k6,k7⟩
    have hlen:=(newHold_get k6).1
    have hall:∀ k,(Nat.ble 1 k&&Nat.blt k (2+S.news.length))=true→extE (fun _=>β i) 1 (g::xs) k=extE β n (g::xs) (n+(k-1)):=fun k hk=>by
     rw [Bool.and_eq_true,Nat.ble_eq,Nat.blt_eq] at hk
     have h5:k-1<(g::xs).length:=by rw [List.length_cons]; omega
     rw [extE_in (List.getElem?_eq_getElem h5)]
     have:=extE_in (β:=fun _=>β i) (n:=1) (List.getElem?_eq_getElem h5)
     rw [show 1+(k-1)=k by omega] at this
     exact this
    refine ⟨g,xs,⟨k1,fun x hx c hc=>.inl (k2 x hx c hc),k3⟩,?_,Ob.renL_holds.2 (Ob.holds_cgL hall c3 k5),k6,k7⟩
    rw [SV.den_ren]
    congr 1
    exact SV.den_congr hall _ c4)
structure RSpec (P:Program) where
 f:FuncId
 en:Enters P f
 args:List SV
 src:Ob
 res:SV
 ok:∀ β w,src.holds β w (β 0)→Calls P f (args.map (SV.den β)).toArray w fun e w'=>e=.returned (res.den β)∧Below w.heap.size w w'
 cl:(src.of (fun _=>false)&&(args.all (SV.of fun k=>Nat.beq k 0)&&res.of fun k=>Nat.beq k 0))=true
def bkOfR:List SV→Nat
 | []=>0
 | .one (.c (.b (.r k _)))::_=>k
 | _::r=>bkOfR r
def RSpec.e {P:Program} (S:RSpec P):Ev P:=.dyn (fun o _ _=>isCallB o) fun _ xs ob=>lit (bkOfR xs) fun i=>lit ob.length fun n =>
 .call S.f S.en (fun β=>(S.args.map (SV.den fun _=>β i)).toArray) [(i,S.src)] n (S.res.ren fun _=>i) [] (fun β w h=>by
  have hc:=S.cl
  simp only [Bool.and_eq_true] at hc
  obtain ⟨c1,c2,c3⟩:=hc
  have h1:S.src.holds β w (β i):=h _ (List.mem_singleton.2 rfl)
  refine (S.ok (fun _=>β i) w (Ob.holds_congr (q:=fun _=>false) (fun k hk=>by cases hk) _ c1 h1)).mono fun e w' ⟨k1,k2⟩=>⟨[],(fun _ h=>by cases h),?_,trivial,k2⟩
  rw [k1,extE_nil,SV.den_ren])
structure RRow (P:Program) where
 f:FuncId
 en:Enters P f
 args:List SV
 src:Ob
 row:Ob
 res:SV
 ok:∀ β w,src.holds β w (β 0)→Calls P f (args.map (SV.den β)).toArray w fun e w'=>∃ g:Pl,w.heap.size≤g.b∧e=.returned (res.den (fun _=>g))∧row.holds (fun _=>g) w' g∧Below w.heap.size w w'
 cl:(src.of (fun _=>false)&&(row.of (fun _=>false)&&(args.all (SV.of fun k=>Nat.beq k 0)&&res.of fun k=>Nat.beq k 0)))=true
def RRow.e {P:Program} (S:RRow P):Ev P:=.dyn (fun o _ _=>isCallB o) fun _ xs ob=>lit (bkOfR xs) fun i=>lit ob.length fun n =>
 .own S.f S.en (fun β=>(S.args.map (SV.den fun _=>β i)).toArray) [(i,S.src)] n S.row (S.res.ren fun _=>n) [] (fun β w h=>by
  have hc:=S.cl
  simp only [Bool.and_eq_true] at hc
  obtain ⟨c1,c2,c3,c4⟩:=hc
  have h1:S.src.holds β w (β i):=h _ (List.mem_singleton.2 rfl)
  refine (S.ok (fun _=>β i) w (Ob.holds_congr (q:=fun _=>false) (fun k hk=>by cases hk) _ c1 h1)).mono ?_
  rintro e w' ⟨g,k1,rfl,k3,k4⟩
  have hg:extE β n [g] n=g:=extE_in (i:=0) (xs:=[g]) rfl
  refine ⟨g,[],⟨k1,(fun _ h=>by cases h),(fun _ h=>by cases h)⟩,?_,Ob.holds_congr (q:=fun _=>false) (fun k hk=>by cases hk) _ c2 k3,trivial,k4⟩
  rw [SV.den_ren]
  congr 1
  exact SV.den_congr (q:=fun k=>Nat.beq k 0) (fun k _=>hg.symm) _ c4)
abbrev maM (x0 y0 x1 y1 x2 y2 x3 y3:R4) (t:Bool):List Lf:=rL x0++rL y0++rL x1++rL y1++rL x2++rL y2++rL x3++rL y3++[.b (.v (.bool t))]
theorem mw_sub0 {z w:GQ}:gzero (gsub z w)=true↔z=w:=by
 rw [gzero_iff]
 constructor
 · rintro ⟨h1,h2⟩
   simp only [gsub] at h1 h2
   exact GQ.ext2 (by grind) (by grind)
 · rintro rfl
   simp only [gsub]
   exact ⟨by grind,by grind⟩
abbrev mgL (a b c d:Gn) (t:Bool):List Lf:=rL a.x++rL a.y++rL b.x++rL b.y++rL c.x++rL c.y++rL d.x++rL d.y++[.b (.v (.bool t))]
abbrev mgS (a b c d:Gn) (t:Bool):SV:=.one (.a (mgL a b c d t))
def gB (z w:GQ):Bool:=(fR z.re).eq (fR w.re)&&((fR z.im).eq (fR w.im)&&true)
theorem gB_iff {z w:GQ}:gB z w=true↔z=w:=by
 unfold gB
 simp only [Bool.and_true,Bool.and_eq_true,R4.eq_iff]
 constructor
 · rintro ⟨h1,h2⟩
   exact GQ.ext2 (fR_inj h1) (fR_inj h2)
 · rintro rfl
   exact ⟨rfl,rfl⟩
def gEq (z w:GQ) {r:Bool} (h:gB z w=r):Ev Tryz.prog:=eqEvG (fR z.re) (fR z.im) (fR w.re) (fR w.im) r h
abbrev g1':GQ:=gint 1 0
abbrev g0':GQ:=gint 0 0
def CkV (a b c d:Gn) (t:Bool) (k:Int):Prop:=∀ (β:Env) (w:World),Calls Tryz.prog 29 (([mgS a b c d t]:List SV).map (SV.den β)).toArray w fun e w'=>∃ xs:List Pl,freshS β w 0 xs∧e=.returned ((SV.one (nI' k)).den (extE β 0 xs))∧newHold w' [] xs∧Below w.heap.size w w'
theorem mw_no (β:Env) (w:World):∀ (k:Nat) (t:Thing),([]:List Thing)[k]?=some t→t.D w (β k):=fun k t h=>by simp at h
theorem ck_no {a b c d:Gn} {t:Bool} (h:(a.B&&(b.B&&(c.B&&d.B)))=false):CkV a b c d t 2:=fun β w=>by
 cases h1:a.B with
 | false=>exact spec_auto (args:=[mgS a b c d t]) (obs:=[]) (res:=.one (nI' 2)) (news:=[]) (evs:=[(sR4MayG a h1).e]) (Ns:=[(3,21)]) (m:=800) Tryz.func29 hmA (fun β=>by kernel_rfl) (by kernel_rfl) β w (mw_no β w)
 | true=>cases h2:b.B with
  | false=>exact spec_auto (args:=[mgS a b c d t]) (obs:=[]) (res:=.one (nI' 2)) (news:=[]) (evs:=[(sR4MayG a h1).e,(sR4MayG b h2).e]) (Ns:=[(3,21)]) (m:=800) Tryz.func29 hmA (fun β=>by kernel_rfl) (by kernel_rfl) β w (mw_no β w)
  | true=>cases h3:c.B with
   | false=>exact spec_auto (args:=[mgS a b c d t]) (obs:=[]) (res:=.one (nI' 2)) (news:=[]) (evs:=[(sR4MayG a h1).e,(sR4MayG b h2).e,(sR4MayG c h3).e]) (Ns:=[(3,21)]) (m:=800) Tryz.func29 hmA (fun β=>by kernel_rfl) (by kernel_rfl) β w (mw_no β w)
   | true=>cases h4:d.B with
    | false=>exact spec_auto (args:=[mgS a b c d t]) (obs:=[]) (res:=.one (nI' 2)) (news:=[]) (evs:=[(sR4MayG a h1).e,(sR4MayG b h2).e,(sR4MayG c h3).e,(sR4MayG d h4).e]) (Ns:=[(3,21)]) (m:=800) Tryz.func29 hmA (fun β=>by kernel_rfl) (by kernel_rfl) β w (mw_no β w)
    | true=>rw [h1,h2,h3,h4] at h; cases h
section
variable (q:MQ) (h:FitM q)
abbrev ckGs (q:MQ) (h:FitM q) (k:Int):Prop:=CkV (.ok q.a h.1) (.ok q.b h.2.1) (.ok q.c h.2.2.1) (.ok q.d h.2.2.2) q.t k
noncomputable def ckM:List (Ev Tryz.prog):=[(sR4MayG (.ok q.a h.1) rfl).e,(sR4MayG (.ok q.b h.2.1) rfl).e,(sR4MayG (.ok q.c h.2.2.1) rfl).e,(sR4MayG (.ok q.d h.2.2.2) rfl).e,sR8unit.e]
theorem ckq_sz {q:MQ} (h:FitM q):MSz KD q:=⟨h.1.gsz.mono (by decide),h.2.1.gsz.mono (by decide),h.2.2.1.gsz.mono (by decide),h.2.2.2.gsz.mono (by decide)⟩
noncomputable def ckZ {b:Bool} (hd:gzero (mdet q)=b):List (Ev Tryz.prog):=[(sR8Det (ckq_sz h)).e,(sR4Zero (mdet q) hd).e]
theorem ck_q:(MayQ q∧ckGs q h 0)∨ckGs q h 2:=by
 cases r1:gB q.c g1' with
 | true =>
  cases hd:gzero (mdet q) with
  | false =>
   refine .inl ⟨⟨h,hd,.inl (mw_sub0.2 (gB_iff.1 r1))⟩,fun β w=>?_⟩
   exact spec_auto (evs:=ckM q h++[gEq q.c g1' r1]++ckZ q h hd) (Ns:=[(3,21)]) (m:=800) Tryz.func29 hmA (fun β=>by kernel_rfl) (by kernel_rfl) β w (mw_no β w)
  | true =>
   refine .inr fun β w=>?_
   exact spec_auto (evs:=ckM q h++[gEq q.c g1' r1]++ckZ q h hd) (Ns:=[(3,21)]) (m:=800) Tryz.func29 hmA (fun β=>by kernel_rfl) (by kernel_rfl) β w (mw_no β w)
 | false =>
  cases r2:gB q.c g0' with
  | false =>
   refine .inr fun β w=>?_
   exact spec_auto (evs:=ckM q h++[gEq q.c g1' r1,sR8zero.e,gEq q.c g0' r2]) (Ns:=[(3,21)]) (m:=800) Tryz.func29 hmA (fun β=>by kernel_rfl) (by kernel_rfl) β w (mw_no β w)
  | true =>
   cases r3:gB q.d g1' with
   | false =>
    refine .inr fun β w=>?_
    exact spec_auto (evs:=ckM q h++[gEq q.c g1' r1,sR8zero.e,gEq q.c g0' r2,sR8unit.e,gEq q.d g1' r3]) (Ns:=[(3,21)]) (m:=800) Tryz.func29 hmA (fun β=>by kernel_rfl) (by kernel_rfl) β w (mw_no β w)
   | true =>
    cases hd:gzero (mdet q) with
    | false =>
     have z0:gzero q.c=true:=by rw [gB_iff.1 r2]; rfl
     refine .inl ⟨⟨h,hd,.inr ⟨z0,mw_sub0.2 (gB_iff.1 r3)⟩⟩,fun β w=>?_⟩
     exact spec_auto (evs:=ckM q h++[gEq q.c g1' r1,sR8zero.e,gEq q.c g0' r2,sR8unit.e,gEq q.d g1' r3]++ckZ q h hd) (Ns:=[(3,21)]) (m:=800) Tryz.func29 hmA (fun β=>by kernel_rfl) (by kernel_rfl) β w (mw_no β w)
    | true =>
     refine .inr fun β w=>?_
     exact spec_auto (evs:=ckM q h++[gEq q.c g1' r1,sR8zero.e,gEq q.c g0' r2,sR8unit.e,gEq q.d g1' r3]++ckZ q h hd) (Ns:=[(3,21)]) (m:=800) Tryz.func29 hmA (fun β=>by kernel_rfl) (by kernel_rfl) β w (mw_no β w)
end
theorem ck_may {q:MQ} (h:MayQ q):ckGs q h.1 0:=fun β w=>by
 have hd:=h.2.1
 cases r1:gB q.c g1' with
 | true=>exact spec_auto (evs:=ckM q h.1++[gEq q.c g1' r1]++ckZ q h.1 hd) (Ns:=[(3,21)]) (m:=800) Tryz.func29 hmA (fun β=>by kernel_rfl) (by kernel_rfl) β w (mw_no β w)
 | false =>
  rcases h.2.2 with h1 | ⟨h1,h2⟩
  · rw [gB_iff.2 (mw_sub0.1 h1)] at r1
    cases r1
  · have r2:gB q.c g0'=true:=gB_iff.2 (by
     rw [gz_true] at h1
     rw [h1]
     kernel_rfl)
    have r3:gB q.d g1'=true:=gB_iff.2 (mw_sub0.1 h2)
    exact spec_auto (evs:=ckM q h.1++[gEq q.c g1' r1,sR8zero.e,gEq q.c g0' r2,sR8unit.e,gEq q.d g1' r3]++ckZ q h.1 hd) (Ns:=[(3,21)]) (m:=800) Tryz.func29 hmA (fun β=>by kernel_rfl) (by kernel_rfl) β w (mw_no β w)
def CkMp (m:Mp) (k:Int):Prop:=∀ (β:Env) (w:World),Calls Tryz.prog 29 (([.one (.a m.C)]:List SV).map (SV.den β)).toArray w fun e w'=>∃ xs:List Pl,freshS β w 0 xs∧e=.returned ((SV.one (nI' k)).den (extE β 0 xs))∧newHold w' [] xs∧Below w.heap.size w w'
def sCkMp {m:Mp} {k:Int} (h:CkMp m k):Spec Tryz.prog :=
 ⟨29,Tryz.call29,[.one (.a m.C)],[],.one (nI' k),[],fun β w _=>h β w,by kernel_rfl⟩
abbrev r4k (x:R4):Prop:=x.s.size≤maxLen∧x.t.size≤maxLen
theorem map_all (x0 y0 x1 y1 x2 y2 x3 y3:R4) (t:Bool) (h0:r4k x0) (k0:r4k y0) (h1:r4k x1) (k1:r4k y1) (h2:r4k x2) (k2:r4k y2) (h3:r4k x3) (k3:r4k y3) :
  ∃ m:Mp,m.C=maM x0 y0 x1 y1 x2 y2 x3 y3 t∧((∃ q,MayQ q∧m.C=mCl q)∨(∃ t,OpenNo m t)∧CkMp m 2):=by
 obtain ⟨a0,e0⟩:=fr_of x0 h0
 obtain ⟨b0,f0⟩:=fr_of y0 k0
 obtain ⟨a1,e1⟩:=fr_of x1 h1
 obtain ⟨b1,f1⟩:=fr_of y1 k1
 obtain ⟨a2,e2⟩:=fr_of x2 h2
 obtain ⟨b2,f2⟩:=fr_of y2 k2
 obtain ⟨a3,e3⟩:=fr_of x3 h3
 obtain ⟨b3,f3⟩:=fr_of y3 k3
 have hC:(⟨a0,b0,a1,b1,a2,b2,a3,b3,t⟩:Mp).C=maM x0 y0 x1 y1 x2 y2 x3 y3 t:=by
  unfold Mp.C
  dsimp only
  rw [e0,f0,e1,f1,e2,f2,e3,f3]
 refine ⟨⟨a0,b0,a1,b1,a2,b2,a3,b3,t⟩,hC,?_⟩
 have two:∀ {a b c d:Gn},mgL a b c d t=maM x0 y0 x1 y1 x2 y2 x3 y3 t→CkV a b c d t 2→((∃ q,MayQ q∧(⟨a0,b0,a1,b1,a2,b2,a3,b3,t⟩:Mp).C=mCl q)∨(∃ u,OpenNo ⟨a0,b0,a1,b1,a2,b2,a3,b3,t⟩ u)∧CkMp ⟨a0,b0,a1,b1,a2,b2,a3,b3,t⟩ 2):=fun {a b c d} e hk=>by
  rcases open_all ⟨a0,b0,a1,b1,a2,b2,a3,b3,t⟩ with h | h
  · exact .inl h
  · refine .inr ⟨h,fun β w=>?_⟩
    have:=hk β w
    rw [hC,← e]
    exact this
 obtain ⟨a,rfl,rfl⟩:=gn_of x0 y0 h0 k0
 obtain ⟨b,rfl,rfl⟩:=gn_of x1 y1 h1 k1
 obtain ⟨c,rfl,rfl⟩:=gn_of x2 y2 h2 k2
 obtain ⟨d,rfl,rfl⟩:=gn_of x3 y3 h3 k3
 cases h:(a.B&&(b.B&&(c.B&&d.B))) with
 | false=>exact two rfl (ck_no h)
 | true =>
  cases a with
  | no=>cases h
  | ok za ha=>cases b with
   | no=>cases h
   | ok zb hb=>cases c with
    | no=>cases h
    | ok zc hc=>cases d with
     | no=>cases h
     | ok zd hd =>
      rcases ck_q ⟨za,zb,zc,zd,t⟩ ⟨ha,hb,hc,hd⟩ with ⟨hm,_⟩ | hk
      · exact .inl ⟨_,hm,hC⟩
      · exact two rfl hk
theorem maFar_ok (a b c d:Gn) (t:Bool) {r:Bool} (h:Lg4 a b c d r) (β:Env) (w:World) (hh:(Ob.box (mgL a b c d t) MOB).holds β w (β 0)) :
  Calls Tryz.prog 25 (([.one (.c (.b (.s 0 0 1 1)))]:List SV).map (SV.den β)).toArray w fun e w'=>e=.returned (.bool r)∧Below w.heap.size w w':=by
 cases r<;>exact bspec_ok [(sLong4 46 a b c d h).e] [(4,22)] 1200 Tryz.func25 hmA (fun β=>by kernel_rfl) (by kernel_rfl) (fun β=>rfl) β w hh
def PpFar (M:List Lf) (r:Bool):Prop:=∀ (β:Env) (w:World),(Ob.box M MOB).holds β w (β 0)→Calls Tryz.prog 25 (([.one (.c (.b (.s 0 0 1 1)))]:List SV).map (SV.den β)).toArray w fun e w'=>e=.returned (.bool r)∧Below w.heap.size w w'
def ppFarQ {q:MQ} {r:Bool} (h:PpFar (mCl q) r):BSpec Tryz.prog:=⟨25,Tryz.call25,[.one (.c (.b (.s 0 0 1 1)))],mCl q,MOB,.bool r,h,by kernel_rfl,fun _=>rfl⟩
def ppFarM {m:Mp} {r:Bool} (h:PpFar m.C r):BSpec Tryz.prog:=⟨25,Tryz.call25,[.one (.c (.b (.s 0 0 1 1)))],m.C,MOB,.bool r,h,by kernel_rfl,fun _=>rfl⟩
def OrdS (q:MQ) (o:Int):Prop:=∀ (β:Env) (w:World),Calls Tryz.prog 28 (([.one (.a (mCl q))]:List SV).map (SV.den β)).toArray w fun e w'=>∃ xs:List Pl,freshS β w 0 xs∧e=.returned ((SV.tup [nI' o,nI' 0]).den (extE β 0 xs))∧newHold w' [] xs∧Below w.heap.size w w'
def ordS {q:MQ} {o:Int} (h:OrdS q o):Spec Tryz.prog:=⟨28,Tryz.call28,[.one (.a (mCl q))],[],.tup [nI' o,nI' 0],[],fun β w _=>h β w,by kernel_rfl⟩
theorem ord_all {q:MQ} (h:MayQ q):∃ o:Nat,FirstP q o∧OrdS q (o:Int):=by
 obtain ⟨o,h1,S,hf,ha,ho,hr,hn⟩:=ord_ex h
 refine ⟨o,h1,fun β w=>?_⟩
 have:=S.ok β w (fun k t ht=>by rw [ho] at ht; simp at ht)
 rw [hf,ha,ho,hr,hn] at this
 exact this
noncomputable def sOrdNo {m:Mp} {t:Bool} (h:OpenNo m t):Spec Tryz.prog :=
 Spec.auto Tryz.call28 [.one (.a m.C)] [] (.tup [nI' 0,nI' 2]) [] [(sOpenNo h).e] [] 400 Tryz.func28 hmA (by kernel_rfl) (fun β=>by kernel_rfl)
noncomputable def sPpIs {M:MQ} (hF:FitM M):Spec Tryz.prog:=(sIs8 M).as [.one (.a (mCl M)),.one (nI' 0),.one (.a (mC M)),.one (nI' 0)] (tB' true) (by
 show [SV.one (.a (maC M)),.one (nI' (maK M)),svM M,.one (nI' 0)]=_
 rw [(ma_fit hF).1,(ma_fit hF).2]) rfl
noncomputable def sPpBig:Spec Tryz.prog:=Spec.auto Tryz.call33 [.one (.a mob0L),.one (nI' 4),.one (.a mob0L),.one (nI' 4)] [] (tB' true) [] (sIs8c 4) [] 400 Tryz.func33 hmA (by kernel_rfl) (fun β=>by kernel_rfl)
def ckqS {q:MQ} (h:∀ (β:Env) (w:World),Calls Tryz.prog 29 (([.one (.a (mCl q))]:List SV).map (SV.den β)).toArray w fun e w'=>∃ xs:List Pl,freshS β w 0 xs∧e=.returned ((SV.one (nI' 0)).den (extE β 0 xs))∧newHold w' [] xs∧Below w.heap.size w w'):Spec Tryz.prog :=
 ⟨29,Tryz.call29,[.one (.a (mCl q))],[],.one (nI' 0),[],fun β w _=>h β w,by kernel_rfl⟩
section
variable {n:Int}
noncomputable def ppMid (h:n.natAbs≤40):List (Ev Tryz.prog):=[.eqv 16 (.bool (decide (40<n))) (.bool false) (by rw [decide_eq_false (by omega)]),.eqv 24 (.bool (decide (n < -40))) (.bool false) (by rw [decide_eq_false (by omega)])]
noncomputable def ppHi (h:256<n):List (Ev Tryz.prog):=[.eqv 16 (.bool (decide (40<n))) (.bool true) (by rw [decide_eq_true (by omega)]),.eqv 19 (.bool (decide (n≤256))) (.bool false) (by rw [decide_eq_false (by omega)]),.eqv 24 (.bool (decide (n < -40))) (.bool false) (by rw [decide_eq_false (by omega)])]
noncomputable def ppLo (h:n < -256):List (Ev Tryz.prog):=[.eqv 16 (.bool (decide (40<n))) (.bool false) (by rw [decide_eq_false (by omega)]),.eqv 24 (.bool (decide (n < -40))) (.bool true) (by rw [decide_eq_true (by omega)]),.eqv 27 (.bool (decide (-256≤n))) (.bool false) (by rw [decide_eq_false (by omega)])]
end
abbrev ppA (l:List Lf) (n:Int):List SV:=[.one (.a l),.one (nI' n)]
section
variable {m:Mp} {n:Int}
noncomputable def ppFar (n:Int) (h:PpFar m.C true):Spec Tryz.prog :=
 Spec.auto Tryz.call5 (ppA m.C n) [] (tB' true) [] [(ppFarM h).e,sWorks.e] [] 800 Tryz.func5 hmA (by kernel_rfl) (fun β=>by kernel_rfl)
noncomputable def ppBigN (h:PpFar m.C false) (h1:40<n) (h2:n≤256):Spec Tryz.prog :=
 Spec.auto Tryz.call5 (ppA m.C n) [] (tB' true) [] [(ppFarM h).e,.eqv 16 (.bool (decide (40<n))) (.bool true) (by rw [decide_eq_true h1]),.eqv 19 (.bool (decide (n≤256))) (.bool true) (by rw [decide_eq_true h2]),sWorks.e] [] 800 Tryz.func5 hmA (by kernel_rfl) (fun β=>by kernel_rfl)
noncomputable def ppLowN (h:PpFar m.C false) (h1:n < -40) (h2 : -256≤n):Spec Tryz.prog :=
 Spec.auto Tryz.call5 (ppA m.C n) [] (tB' true) [] [(ppFarM h).e,.eqv 16 (.bool (decide (40<n))) (.bool false) (by rw [decide_eq_false (by omega)]),.eqv 24 (.bool (decide (n < -40))) (.bool true) (by rw [decide_eq_true h1]),.eqv 27 (.bool (decide (-256≤n))) (.bool true) (by rw [decide_eq_true h2]),sWorks.e] [] 800 Tryz.func5 hmA (by kernel_rfl) (fun β=>by kernel_rfl)
noncomputable def ppNoE {t:Bool} (ho:OpenNo m t) (hk:CkMp m 2) (n:Int):List (Ev Tryz.prog):=[(sPwNo ho n).e,(sOrdNo ho).e,(sCkMp hk).e,eqM0,(sNum8 2).e,(sNum8 2).e,sWorks.e]
noncomputable def ppNoM {t:Bool} (h:PpFar m.C false) (ho:OpenNo m t) (hk:CkMp m 2) (hn:n.natAbs≤40):Spec Tryz.prog :=
 Spec.auto Tryz.call5 (ppA m.C n) [] (tB' true) [] ((ppFarM h).e::ppMid hn++ppNoE ho hk n) [] 800 Tryz.func5 hmA (by kernel_rfl) (fun β=>by kernel_rfl)
noncomputable def ppNoH {t:Bool} (h:PpFar m.C false) (ho:OpenNo m t) (hk:CkMp m 2) (hn:256<n):Spec Tryz.prog :=
 Spec.auto Tryz.call5 (ppA m.C n) [] (tB' true) [] ((ppFarM h).e::ppHi hn++ppNoE ho hk n) [] 800 Tryz.func5 hmA (by kernel_rfl) (fun β=>by kernel_rfl)
noncomputable def ppNoL {t:Bool} (h:PpFar m.C false) (ho:OpenNo m t) (hk:CkMp m 2) (hn:n < -256):Spec Tryz.prog :=
 Spec.auto Tryz.call5 (ppA m.C n) [] (tB' true) [] ((ppFarM h).e::ppLo hn++ppNoE ho hk n) [] 800 Tryz.func5 hmA (by kernel_rfl) (fun β=>by kernel_rfl)
end
section
variable {q:MQ} {n:Int} (h:PpFar (mCl q) false) (hq:MayQ q) (hc:∀ (β:Env) (w:World),Calls Tryz.prog 29 (([.one (.a (mCl q))]:List SV).map (SV.den β)).toArray w fun e w'=>∃ xs:List Pl,freshS β w 0 xs∧e=.returned ((SV.one (nI' 0)).den (extE β 0 xs))∧newHold w' [] xs∧Below w.heap.size w w')
 (hs:MSz 120 q) {o:Nat} (ho:OrdS q (o:Int)) (hf:FirstP q o)
noncomputable def ppOr:List (Ev Tryz.prog):=[(ordS ho).e,(ckqS hc).e,(sROrd hs hq.reg hq.nrm hf).e,.eqv 68 (.bool (!((o:Int)==(o:Int)))) (.bool false) (by simp),(sNum8 0).e]
noncomputable def ppYH (hn:256<n):Spec Tryz.prog :=
 Spec.auto Tryz.call5 (ppA (mCl q) n) [] (tB' true) [] ((ppFarQ h).e::ppHi hn++[(sPwHi hq hn).e]++ppOr hq hc hs ho hf++[.eqv 75 (.bool (decide (n < -256))) (.bool false) (by rw [decide_eq_false (by omega)]),.eqv 78 (.bool (decide (256<n))) (.bool true) (by rw [decide_eq_true hn]),eqM0,(sNum8 2).e,sWorks.e]) [] 800 Tryz.func5 hmA (by kernel_rfl) (fun β=>by kernel_rfl)
noncomputable def ppYL (hn:n < -256):Spec Tryz.prog :=
 Spec.auto Tryz.call5 (ppA (mCl q) n) [] (tB' true) [] ((ppFarQ h).e::ppLo hn++[(sPwLo hq hn).e]++ppOr hq hc hs ho hf++[.eqv 75 (.bool (decide (n < -256))) (.bool true) (by rw [decide_eq_true hn]),eqM0,(sNum8 2).e,sWorks.e]) [] 800 Tryz.func5 hmA (by kernel_rfl) (fun β=>by kernel_rfl)
noncomputable def ppIn (hn:n.natAbs≤40):List (Ev Tryz.prog):=[.eqv 75 (.bool (decide (n < -256))) (.bool false) (by rw [decide_eq_false (by omega)]),.eqv 78 (.bool (decide (256<n))) (.bool false) (by rw [decide_eq_false (by omega)])]
noncomputable def ppYY (hn:n.natAbs≤40) (hF:PwFit (pwB q n) n.natAbs):Spec Tryz.prog :=
 Spec.auto Tryz.call5 (ppA (mCl q) n) [] (tB' true) [] ((ppFarQ h).e::ppMid hn++[(sPwY hq (by omega) hF).e]++ppOr hq hc hs ho hf++ppIn hn++[(sRPwY hq (by omega) hF).e,(sPpIs (pw_fit hF)).e,sWorks.e]) [] 800 Tryz.func5 hmA (by kernel_rfl) (fun β=>by kernel_rfl)
noncomputable def ppYN (hn:n.natAbs≤40) {i:Nat} (hi:i<n.natAbs) (hF:PwFit (pwB q n) i) (hF2:¬ FitM (mpw (pwB q n) (i+1))):Spec Tryz.prog :=
 Spec.auto Tryz.call5 (ppA (mCl q) n) [] (tB' true) [] ((ppFarQ h).e::ppMid hn++[(sPwN hq (by omega) hi hF hF2).e]++ppOr hq hc hs ho hf++ppIn hn++[(sRPwN hq (by omega) hi hF hF2).e,sPpBig.e,sWorks.e]) [] 800 Tryz.func5 hmA (by kernel_rfl) (fun β=>by kernel_rfl)
end
theorem LgF.sz {x:Rat} (h:LgF (fR x) false) (hf:Fit x):Sz 120 x:=by
 obtain ⟨a,b,ha,hb,e⟩:=h.is
 simp only [Bool.or_eq_false_iff] at e
 have h1:=hf.sz
 exact ⟨T3.few ha e.1 h1.1,by have:=T3.few hb e.2 (by have:=h1.2; rw [sz_nat] at this; exact this); rw [sz_nat]; exact this⟩
end Go.Proofs.YtbepimnlleilfaaGreat.Y
end
section
namespace Go.Proofs.YtbepimnlleilfaaGreat.Y
open Go Go.RowKit
set_option maxRecDepth 100000
theorem rl_app {x y:R4} {l l':List Lf} (h:rL x++l=rL y++l'):x=y∧l=l':=by
 obtain ⟨b,s,c,t⟩:=x
 obtain ⟨b',s',c',t'⟩:=y
 simp only [rL,List.cons_append,List.nil_append,List.cons.injEq,Lf.b.injEq,Lf0.v.injEq,Value.bool.injEq,Value.string.injEq] at h
 obtain ⟨rfl,rfl,rfl,rfl,h⟩:=h
 exact ⟨rfl,h⟩
theorem mg_mCl (q:MQ):mCl q=rL (fR q.a.re)++(rL (fR q.a.im)++(rL (fR q.b.re)++(rL (fR q.b.im)++(rL (fR q.c.re)++(rL (fR q.c.im)++(rL (fR q.d.re)++(rL (fR q.d.im)++[.b (.v (.bool q.t))]))))))):=rfl
theorem pp_sz {a b c d:Gn} {t:Bool} {q:MQ} (h:Lg4 a b c d false) (hC:mgL a b c d t=mCl q) (hf:FitM q):MSz 120 q:=by
 rw [mg_mCl] at hC
 have e0:mgL a b c d t=rL a.x++(rL a.y++(rL b.x++(rL b.y++(rL c.x++(rL c.y++(rL d.x++(rL d.y++[.b (.v (.bool t))]))))))):=by simp only [mgL,List.append_assoc]
 rw [e0] at hC
 obtain ⟨e1,hC⟩:=rl_app hC
 obtain ⟨e2,hC⟩:=rl_app hC
 obtain ⟨e3,hC⟩:=rl_app hC
 obtain ⟨e4,hC⟩:=rl_app hC
 obtain ⟨e5,hC⟩:=rl_app hC
 obtain ⟨e6,hC⟩:=rl_app hC
 obtain ⟨e7,hC⟩:=rl_app hC
 obtain ⟨e8,hC⟩:=rl_app hC
 obtain ⟨x0,y0,x1,y1,x2,y2,x3,y3,h0,k0,h1,k1,h2,k2,h3,k3,e⟩:=h.is
 simp only [Bool.or_eq_false_iff] at e
 obtain ⟨rfl,rfl,rfl,rfl,rfl,rfl,rfl,rfl⟩:=e
 rw [e1] at h0
 rw [e2] at k0
 rw [e3] at h1
 rw [e4] at k1
 rw [e5] at h2
 rw [e6] at k2
 rw [e7] at h3
 rw [e8] at k3
 exact ⟨⟨LgF.sz h0 hf.1.1,LgF.sz k0 hf.1.2⟩,⟨LgF.sz h1 hf.2.1.1,LgF.sz k1 hf.2.1.2⟩,⟨LgF.sz h2 hf.2.2.1.1,LgF.sz k2 hf.2.2.1.2⟩,⟨LgF.sz h3 hf.2.2.2.1,LgF.sz k3 hf.2.2.2.2⟩⟩
theorem pp_walk (x0 y0 x1 y1 x2 y2 x3 y3:R4) (t:Bool) (h0:r4k x0) (k0:r4k y0) (h1:r4k x1) (k1:r4k y1) (h2:r4k x2) (k2:r4k y2) (h3:r4k x3) (k3:r4k y3) (n:Int) (w:World) :
  Calls Tryz.prog 5 ((ppA (maM x0 y0 x1 y1 x2 y2 x3 y3 t) n).map (SV.den idE)).toArray w fun e w'=>e=.returned (.bool true)∧Below w.heap.size w w':=by
 have hfar:∃ a b c d:Gn,mgL a b c d t=maM x0 y0 x1 y1 x2 y2 x3 y3 t∧∃ r,Lg4 a b c d r:=by
  obtain ⟨a,rfl,rfl⟩:=gn_of x0 y0 h0 k0
  obtain ⟨b,rfl,rfl⟩:=gn_of x1 y1 h1 k1
  obtain ⟨c,rfl,rfl⟩:=gn_of x2 y2 h2 k2
  obtain ⟨d,rfl,rfl⟩:=gn_of x3 y3 h3 k3
  exact ⟨a,b,c,d,rfl,Lg4.all a b c d⟩
 obtain ⟨m,hmC,hmap⟩:=map_all x0 y0 x1 y1 x2 y2 x3 y3 t h0 k0 h1 k1 h2 k2 h3 k3
 rw [← hmC] at hfar ⊢
 obtain ⟨a,b,c,d,hC,r,hL⟩:=hfar
 have hF:PpFar m.C r:=by
  rw [← hC]
  exact maFar_ok a b c d t hL
 have fin2:∀ {l:List Lf} (S:Spec Tryz.prog),S.f=5→S.args=ppA l n→S.obs=[]→S.res=tB' true→Calls Tryz.prog 5 ((ppA l n).map (SV.den idE)).toArray w fun e w'=>e=.returned (.bool true)∧Below w.heap.size w w':=fun {l} S h1 h2 h3 h4=>by
  have:=S.ok idE w (fun k t ht=>by rw [h3] at ht; simp at ht)
  rw [h1,h2] at this
  refine this.mono fun e w' ⟨xs,_,he,_,hb⟩=>⟨?_,hb⟩
  rw [he,h4]
  rfl
 cases r with
 | true=>exact fin2 (ppFar n hF) rfl rfl rfl rfl
 | false =>
 by_cases b1:40<n∧n≤256
 · exact fin2 (ppBigN hF b1.1 b1.2) rfl rfl rfl rfl
 by_cases b2:n < -40 ∧ -256≤n
 · exact fin2 (ppLowN hF b2.1 b2.2) rfl rfl rfl rfl
 rcases hmap with ⟨q,hq,e⟩ | ⟨⟨u,ho⟩,hk⟩
 · have hs:MSz 120 q:=pp_sz hL (hC.trans e) hq.1
   rw [e] at hF ⊢
   obtain ⟨o,hf,ho⟩:=ord_all hq
   have hc:∀ (β:Env) (w:World),Calls Tryz.prog 29 (([.one (.a (mCl q))]:List SV).map (SV.den β)).toArray w fun e w'=>∃ xs:List Pl,freshS β w 0 xs∧e=.returned ((SV.one (nI' 0)).den (extE β 0 xs))∧newHold w' [] xs∧Below w.heap.size w w':=fun β w=>ck_may hq β w
   by_cases c1:256<n
   · exact fin2 (ppYH hF hq hc hs ho hf c1) rfl rfl rfl rfl
   by_cases c2:n < -256
   · exact fin2 (ppYL hF hq hc hs ho hf c2) rfl rfl rfl rfl
   have hn:n.natAbs≤40:=by omega
   rcases pw_cases (pwB q n) n.natAbs with hP | ⟨i,hi,hP,hP2⟩
   · exact fin2 (ppYY hF hq hc hs ho hf hn hP) rfl rfl rfl rfl
   · exact fin2 (ppYN hF hq hc hs ho hf hn hi hP hP2) rfl rfl rfl rfl
 · by_cases c1:256<n
   · exact fin2 (ppNoH hF ho hk c1) rfl rfl rfl rfl
   by_cases c2:n < -256
   · exact fin2 (ppNoL hF ho hk c2) rfl rfl rfl rfl
   exact fin2 (ppNoM hF ho hk (by omega)) rfl rfl rfl rfl
end Go.Proofs.YtbepimnlleilfaaGreat.Y
namespace Go.Proofs.YtbepimnlleilfaaGreat
open Go.Proofs.YtbepimnlleilfaaGreat.Y Go Go.RowKit
theorem MobPowers_walk (x0 y0 x1 y1 x2 y2 x3 y3:R4) (t:Bool) (n:Int) (h0:Y.r4k x0) (k0:Y.r4k y0) (h1:Y.r4k x1) (k1:Y.r4k y1) (h2:Y.r4k x2) (k2:Y.r4k y2) (h3:Y.r4k x3) (k3:Y.r4k y3) {p:Prop} (_:p) (W:World) :
  Calls Tryz.prog 5 #[.agg (x0.V++y0.V++x1.V++y1.V++x2.V++y2.V++x3.V++y3.V++[Value.bool t]).toArray,.int .i64 n] W fun e W'=>e=.returned (.bool true)∧Below W.heap.size W W' :=
 Y.pp_walk x0 y0 x1 y1 x2 y2 x3 y3 t h0 k0 h1 k1 h2 k2 h3 k3 n W
end Go.Proofs.YtbepimnlleilfaaGreat
end
section
namespace Go.Proofs.YtbepimnlleilfaaGreat
open Go.ChangeShapes Go.WideShapes Go.ChangeAt Go.RowKit
theorem cellsOf_bool:Tryz.prog.cellsOf 4=1:=by kernel_rfl
theorem cellsOf_string:Tryz.prog.cellsOf 9=1:=by kernel_rfl
theorem cellsOf_whole:Tryz.prog.cellsOf 23=2:=by kernel_rfl
theorem cellsOf_frac:Tryz.prog.cellsOf 25=4:=by kernel_rfl
section
variable {H:Type} {enc:TypeId × Value→H} {w:World} {base:Nat} {spare:Nat→Bool} {held:Bool}
set_option maxRecDepth 100000 in
theorem trod_whole {fuel:Nat} {cs:List Value} {x:DataW H × List MemPlace} (h:DataW.trod enc Tryz.prog w base spare held fuel 23 cs=some x) :
  ∃ (b:Bool) (s:ByteArray),cs=[.bool b,.string s]∧s.size≤maxLen:=by
 obtain ⟨xs,n,rfl,_,hlen,hxl,hf⟩:=DataW.trod_struct Tryz.underlying23 h
 rw [cellsOf_whole] at hlen
 have hx0:xs[0]?=some (xs[0]'(by rw [hxl]; decide)):=List.getElem?_eq_getElem _
 have hx1:xs[1]?=some (xs[1]'(by rw [hxl]; decide)):=List.getElem?_eq_getElem _
 have h0:DataW.trod enc Tryz.prog w base spare held n 4 ((cs.drop 0).take (Tryz.prog.cellsOf 4))=some _:=(hf 0 _ rfl).trans hx0
 have h1:DataW.trod enc Tryz.prog w base spare held n 9 ((cs.drop 1).take (Tryz.prog.cellsOf 9))=some _:=(hf 1 _ rfl).trans hx1
 rw [cellsOf_bool] at h0
 rw [cellsOf_string] at h1
 match cs,hlen with
 | [a,b],_ =>
  obtain ⟨p,e0,_⟩:=DataW.trod_bool Tryz.underlying4 h0
  obtain ⟨s,e1,_,hs⟩:=DataW.trod_string Tryz.underlying9 h1
  cases e0
  cases e1
  exact ⟨p,s,rfl,hs⟩
set_option maxRecDepth 100000 in
theorem trod_frac {fuel:Nat} {cs:List Value} {x:DataW H × List MemPlace} (h:DataW.trod enc Tryz.prog w base spare held fuel 25 cs=some x) :
  ∃ (b c:Bool) (s t:ByteArray),cs=[.bool b,.string s,.bool c,.string t]∧s.size≤maxLen∧t.size≤maxLen:=by
 obtain ⟨xs,n,rfl,_,hlen,hxl,hf⟩:=DataW.trod_struct Tryz.underlying25 h
 rw [cellsOf_frac] at hlen
 have hx0:xs[0]?=some (xs[0]'(by rw [hxl]; decide)):=List.getElem?_eq_getElem _
 have hx1:xs[1]?=some (xs[1]'(by rw [hxl]; decide)):=List.getElem?_eq_getElem _
 have h0:DataW.trod enc Tryz.prog w base spare held n 23 ((cs.drop 0).take (Tryz.prog.cellsOf 23))=some _:=(hf 0 _ rfl).trans hx0
 have h1:DataW.trod enc Tryz.prog w base spare held n 23 ((cs.drop 2).take (Tryz.prog.cellsOf 23))=some _:=(hf 1 _ rfl).trans hx1
 rw [cellsOf_whole] at h0 h1
 match cs,hlen with
 | [a,b,c,d],_ =>
  obtain ⟨p,s,e0,hs⟩:=trod_whole h0
  obtain ⟨q,t,e1,ht⟩:=trod_whole h1
  cases e0
  cases e1
  exact ⟨p,q,s,t,rfl,hs,ht⟩
end
end Go.Proofs.YtbepimnlleilfaaGreat
end
section
namespace Go.Proofs.YtbepimnlleilfaaGreat
open Go Go.ChangeShapes Go.WideShapes Go.ChangeAt Go.RowKit
theorem cellsOf_gauss:Tryz.prog.cellsOf 46=8:=by kernel_rfl
theorem cellsOf_mob:Tryz.prog.cellsOf 48=33:=by kernel_rfl
theorem chunk {α:Type} (cs:List α) (a b:Nat):cs.drop a=(cs.drop a).take b++cs.drop (a+b):=by
 rw [← List.drop_drop,List.take_append_drop]
def R4.ok (x:R4):Prop:=x.s.size≤maxLen∧x.t.size≤maxLen
section
variable {H:Type} {enc:TypeId × Value→H} {w:World} {base:Nat} {spare:Nat→Bool} {held:Bool}
theorem trod_r4 {fuel:Nat} {cs:List Value} {x:DataW H × List MemPlace} (h:DataW.trod enc Tryz.prog w base spare held fuel 25 cs=some x):∃ r:R4,cs=r.V∧r.ok:=by
 obtain ⟨b,c,s,t,e,h1,h2⟩:=trod_frac h
 exact ⟨⟨b,s,c,t⟩,e,h1,h2⟩
set_option maxRecDepth 100000 in
theorem trod_gauss {fuel:Nat} {cs:List Value} {x:DataW H × List MemPlace} (h:DataW.trod enc Tryz.prog w base spare held fuel 46 cs=some x):∃ r s:R4,cs=r.V++s.V∧r.ok∧s.ok:=by
 obtain ⟨xs,n,rfl,_,hlen,hxl,hf⟩:=DataW.trod_struct Tryz.underlying46 h
 rw [cellsOf_gauss] at hlen
 have hx0:xs[0]?=some (xs[0]'(by rw [hxl]; decide)):=List.getElem?_eq_getElem _
 have hx1:xs[1]?=some (xs[1]'(by rw [hxl]; decide)):=List.getElem?_eq_getElem _
 have h0:DataW.trod enc Tryz.prog w base spare held n 25 ((cs.drop 0).take (Tryz.prog.cellsOf 25))=some _:=(hf 0 _ rfl).trans hx0
 have h1:DataW.trod enc Tryz.prog w base spare held n 25 ((cs.drop 4).take (Tryz.prog.cellsOf 25))=some _:=(hf 1 _ rfl).trans hx1
 rw [cellsOf_frac] at h0 h1
 obtain ⟨r,e0,k0⟩:=trod_r4 h0
 obtain ⟨s,e1,k1⟩:=trod_r4 h1
 refine ⟨r,s,?_,k0,k1⟩
 have:=chunk cs 0 4
 rw [e0,List.drop_zero] at this
 rw [this,chunk cs (0+4) 4,e1,List.drop_of_length_le (by omega),List.append_nil]
end
section
variable {H:Type} {enc:TypeId × Value→H} {w:World} {base:Nat} {spare:Nat→Bool} {held:Bool}
set_option maxRecDepth 100000 in
theorem trod_mob {fuel:Nat} {cs:List Value} {x:DataW H × List MemPlace} (h:DataW.trod enc Tryz.prog w base spare held fuel 48 cs=some x) :
  ∃ (a b c d e f g k:R4) (t:Bool),cs=a.V++b.V++c.V++d.V++e.V++f.V++g.V++k.V++[Value.bool t]∧a.ok∧b.ok∧c.ok∧d.ok∧e.ok∧f.ok∧g.ok∧k.ok:=by
 obtain ⟨xs,n,rfl,_,hlen,hxl,hf⟩:=DataW.trod_struct Tryz.underlying48 h
 rw [cellsOf_mob] at hlen
 have hx0:xs[0]?=some (xs[0]'(by rw [hxl]; decide)):=List.getElem?_eq_getElem _
 have hx1:xs[1]?=some (xs[1]'(by rw [hxl]; decide)):=List.getElem?_eq_getElem _
 have hx2:xs[2]?=some (xs[2]'(by rw [hxl]; decide)):=List.getElem?_eq_getElem _
 have hx3:xs[3]?=some (xs[3]'(by rw [hxl]; decide)):=List.getElem?_eq_getElem _
 have hx4:xs[4]?=some (xs[4]'(by rw [hxl]; decide)):=List.getElem?_eq_getElem _
 have h0:DataW.trod enc Tryz.prog w base spare held n 46 ((cs.drop 0).take (Tryz.prog.cellsOf 46))=some _:=(hf 0 _ rfl).trans hx0
 have h1:DataW.trod enc Tryz.prog w base spare held n 46 ((cs.drop 8).take (Tryz.prog.cellsOf 46))=some _:=(hf 1 _ rfl).trans hx1
 have h2:DataW.trod enc Tryz.prog w base spare held n 46 ((cs.drop 16).take (Tryz.prog.cellsOf 46))=some _:=(hf 2 _ rfl).trans hx2
 have h3:DataW.trod enc Tryz.prog w base spare held n 46 ((cs.drop 24).take (Tryz.prog.cellsOf 46))=some _:=(hf 3 _ rfl).trans hx3
 have h4:DataW.trod enc Tryz.prog w base spare held n 4 ((cs.drop 32).take (Tryz.prog.cellsOf 4))=some _:=(hf 4 _ rfl).trans hx4
 rw [cellsOf_gauss] at h0 h1 h2 h3
 rw [cellsOf_bool] at h4
 obtain ⟨a0,b0,e0,k0⟩:=trod_gauss h0
 obtain ⟨a1,b1,e1,k1⟩:=trod_gauss h1
 obtain ⟨a2,b2,e2,k2⟩:=trod_gauss h2
 obtain ⟨a3,b3,e3,k3⟩:=trod_gauss h3
 obtain ⟨t,e4⟩:∃ t,cs.drop 32=[Value.bool t]:=by
  match hc:(cs.drop 32),(show (cs.drop 32).length=1 by rw [List.length_drop]; omega) with
  | [a],_ =>
   rw [hc] at h4
   obtain ⟨i,e0,_⟩:=DataW.trod_bool Tryz.underlying4 h4
   refine ⟨i,?_⟩
   cases e0
   rfl
 refine ⟨a0,b0,a1,b1,a2,b2,a3,b3,t,?_,k0.1,k0.2,k1.1,k1.2,k2.1,k2.2,k3.1,k3.2⟩
 have c0:=chunk cs 0 8
 have c1:=chunk cs (0+8) 8
 have c2:=chunk cs (0+8+8) 8
 have c3:=chunk cs (0+8+8+8) 8
 rw [e3,show 0+8+8+8+8=32 by rfl,e4] at c3
 rw [e2,c3] at c2
 rw [e1,c2] at c1
 rw [e0,c1,List.drop_zero] at c0
 rw [c0]
 simp only [List.append_assoc]
set_option maxRecDepth 100000 in
theorem open_mob {r:Reach} {b0:Nat} {v:Value} {d:DataW H} {p:List MemPlace} (hv:Value.okWide Tryz.prog w r b0 48 v) (h:DataW.Trod enc Tryz.prog w base spare held 48 v d p) :
  ∃ (x0 y0 x1 y1 x2 y2 x3 y3:R4) (t:Bool),v=.agg (x0.V++y0.V++x1.V++y1.V++x2.V++y2.V++x3.V++y3.V++[Value.bool t]).toArray∧x0.ok∧y0.ok∧x1.ok∧y1.ok∧x2.ok∧y2.ok∧x3.ok∧y3.ok:=by
 obtain ⟨cs,rfl,hsz⟩:=okWide_struct Tryz.underlying48 hv
 obtain ⟨fuel,hf⟩:=h
 obtain ⟨l⟩:=cs
 obtain ⟨a,b,c,d,e,f,g,k,t,rfl,hh⟩:=trod_mob hf
 exact ⟨a,b,c,d,e,f,g,k,t,rfl,hh⟩
end
end Go.Proofs.YtbepimnlleilfaaGreat
end
