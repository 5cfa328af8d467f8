/- CbL, SyR, SyF, SyQ, Bwd, Mcp, CbW, CbX, CbY, CbT, Open. -/
import Derived.RangeFuncKeeps
import Derived.OrdersIn
import Derived.TacticsIn
import Derived.RangeFuncWrites
import Derived.RangeFuncLeaves
import Derived.RangeFuncBox
import Derived.Shelf.Abstract
import Derived.WalkKit
import Derived.OwnWalkIn
import Derived.TacticsInMore
import Derived.LoopNIn
import Derived.LoopIn
import Derived.Deep.MidRow
import Derived.Test.YtdiemgedlfnlmaaGreatProg
import Derived.ProofKit
import Derived.OpenShut
import Derived.ShutString
import Derived.ChangeOld
import Derived.Below
import Derived.Test.YtdiemgedlfnlmaaGreatQk12
set_option linter.unnecessarySimpa false
set_option linter.unusedVariables false
set_option linter.unusedSimpArgs false
section
namespace Go.Proofs.YtdiemgedlfnlmaaGreat.Y
open Go Go.RowKit
set_option maxRecDepth 100000
inductive T1 where
 | lo
 | mid
 | hi
def T1.at (s:ByteArray):T1→Prop
 | .lo=>decide ((100:Int)<(s.size:Int))=false
 | .mid=>decide ((100:Int)<(s.size:Int))=true∧decide ((s.size:Int)≤1024)=true
 | .hi=>decide ((100:Int)<(s.size:Int))=true∧decide ((s.size:Int)≤1024)=false
def T1.yes:T1→Bool
 | .mid=>true
 | _=>false
theorem T1.all (s:ByteArray):∃ k:T1,k.at s:=by
 cases h:decide ((100:Int)<(s.size:Int)) with
 | false=>exact ⟨.lo,h⟩
 | true=>cases h2:decide ((s.size:Int)≤1024) with
  | true=>exact ⟨.mid,h,h2⟩
  | false=>exact ⟨.hi,h,h2⟩
theorem bl_lit {b r:Bool} (h:b=r):Value.bool b=.bool r:=by rw [h]
def yT1 (d1 d2:Nat) (s:ByteArray):(k:T1)→k.at s→List (Ev Tryz.prog)
 | .lo,h=>[.eqv d1 (.bool (decide ((100:Int)<(s.size:Int)))) (.bool false) (bl_lit h)]
 | .mid,h=>[.eqv d1 (.bool (decide ((100:Int)<(s.size:Int)))) (.bool true) (bl_lit h.1),.eqv d2 (.bool (decide ((s.size:Int)≤1024))) (.bool true) (bl_lit h.2)]
 | .hi,h=>[.eqv d1 (.bool (decide ((100:Int)<(s.size:Int)))) (.bool true) (bl_lit h.1),.eqv d2 (.bool (decide ((s.size:Int)≤1024))) (.bool false) (bl_lit h.2)]
def Lg1 (x:R4) (r:Bool):Prop:=∃ a b:T1,a.at x.s∧b.at x.t∧(a.yes||b.yes)=r
theorem Lg1.all (x:R4):∃ r,Lg1 x r:=by
 obtain ⟨a,ha⟩:=T1.all x.s
 obtain ⟨b,hb⟩:=T1.all x.t
 exact ⟨_,a,b,ha,hb,rfl⟩
def sLongF (x:R4) {r:Bool} (h:Lg1 x r):Spec Tryz.prog :=
 ⟨231,Tryz.call231,[.one (.a (rL x))],[],tB' r,[],fun β w hh=>by
  obtain ⟨a,b,ha,hb,rfl⟩:=h
  cases a with
  | mid=>exact spec_auto (evs:=yT1 7 13 x.s .mid ha) (Ns:=[]) (m:=400) Tryz.func231 hmA (fun β=>by kernel_rfl) (by kernel_rfl) β w hh
  | lo=>cases b<;>exact spec_auto (evs:=yT1 7 13 x.s .lo ha++yT1 20 26 x.t _ hb) (Ns:=[]) (m:=400) Tryz.func231 hmA (fun β=>by kernel_rfl) (by kernel_rfl) β w hh
  | hi=>cases b<;>exact spec_auto (evs:=yT1 7 13 x.s .hi ha++yT1 20 26 x.t _ hb) (Ns:=[]) (m:=400) Tryz.func231 hmA (fun β=>by kernel_rfl) (by kernel_rfl) β w hh,by kernel_rfl⟩
theorem long1_ok {x0 y0:R4} {rx0 ry0:Bool} (hx0:Lg1 x0 rx0) (hy0:Lg1 y0 ry0) (β:Env) (w:World) (hh:(Ob.box (rL x0++rL y0) 37).holds β w (β 0)) :
  Calls Tryz.prog 95 (([.one (.c (.b (.s 0 0 1 1)))]:List SV).map (SV.den β)).toArray w fun e w'=>e=.returned (.bool (rx0||ry0))∧Below w.heap.size w w':=by
 cases rx0 with
 | true=>exact bspec_ok [(sLongF x0 hx0).e] [] 1200 Tryz.func95 hmA (fun β=>by kernel_rfl) (by kernel_rfl) (fun β=>rfl) β w hh
 | false =>
 cases ry0 with
 | true=>exact bspec_ok [(sLongF x0 hx0).e,(sLongF y0 hy0).e] [] 1200 Tryz.func95 hmA (fun β=>by kernel_rfl) (by kernel_rfl) (fun β=>rfl) β w hh
 | false =>
 exact bspec_ok [(sLongF x0 hx0).e,(sLongF y0 hy0).e] [] 1200 Tryz.func95 hmA (fun β=>by kernel_rfl) (by kernel_rfl) (fun β=>rfl) β w hh
def sLongG1 {x0 y0:R4} {rx0 ry0:Bool} (hx0:Lg1 x0 rx0) (hy0:Lg1 y0 ry0) {r:Bool} (h:(rx0||ry0)=r):BSpec Tryz.prog :=
 ⟨95,Tryz.call95,[.one (.c (.b (.s 0 0 1 1)))],rL x0++rL y0,37,.bool r,fun β w hh=>by rw [← h]; exact long1_ok hx0 hy0 β w hh,by kernel_rfl,fun _=>rfl⟩
end Go.Proofs.YtdiemgedlfnlmaaGreat.Y
end
section
namespace Go.Proofs.YtdiemgedlfnlmaaGreat.Y
open Go Go.RowKit
abbrev RF (l:Option Nat):Fence:={ Fence.wide with round:=l }
theorem callsIn_rf {l:Option Nat} {n:Nat} {P:Program} {f:FuncId} {args:Array Value} {w:World} {R:Ending→World→Prop} (h:Calls P f args w R):CallsIn (RF l) n P f args w R:=(callsIn_wide (n:=n)).2 h
theorem rowsIn_rf {l:Option Nat} {n:Nat} {P:Program} {row:String} {args:Array Value} {w:World} {R:Value→World→Prop} (h:Rows P row args w R):RowsIn (RF l) n P row args w R :=
 fun c cs _=>let ⟨v,w',r,s⟩:=h c cs; ⟨v,w',r,(stepsIn_wide (P:=P)).2 s⟩
def isDefer:Op→Bool
 | .defer _=>true
 | _=>false
section
variable {l:Option Nat} {n:Nat} {P:Program} {Q:Exit→Act→World→Prop}
theorem oper_rf {o:Oper} (hd:isDefer o.op=false) {a:Act} {w:World} {K:Act→World→Prop} (h:o.wp P a w K Q):o.wpIn (RF l) n P a w K Q:=by
 refine ⟨fun _ _=>trivial,?_⟩
 rw [Oper.semAt_eq _ _ _ (fun c e=>by rw [e] at hd; cases hd)]
 unfold Oper.wp at h
 generalize (execOp a.eval o).run P w=r at *
 cases r with
 | ok x w' =>
  cases x<;>simp only [Oper.upon,Oper.uponIn] at h ⊢ <;>
   first
    | exact h
    | exact ⟨fun e=>by simp [Fence.wide] at e,callsIn_rf h⟩
    | exact ⟨fun e=>by simp [Fence.wide] at e,rowsIn_rf h⟩
    | exact h.elim
 | halt hh w'=>cases hh<;>simp only [Oper.upon,Oper.uponIn] at h ⊢<;>first | exact h | exact h.elim
variable {ops:Array Oper} (hL:¬ LetsOut Q)
include hL
theorem any_rf (hops:∀ o∈ops,isDefer o.op=false) {md:Region.Mode}:∀ (fuel:Nat) (listed:Array Bool) (a:Act) (w:World),wpAny P md ops Q fuel listed a w→wpAnyIn (RF l) n P md ops Q fuel listed a w
 | 0,_,_,_,h=>h
 | fuel+1,listed,a,w,h=>⟨h.1,fun i hi=>by
  have h1:=h.2 i hi
  unfold wpOp at h1
  unfold wpOpIn
  split
  · rename_i e
    rw [e] at h1
    exact any_rf hops fuel _ a w h1
  · rename_i o e
    rw [e] at h1
    dsimp only at h1
    split
    · rename_i hw
      rw [if_pos hw] at h1
      rcases h1 with h1 | h1
      · exact Oper.wpIn_mono (fun a w h=>any_rf hops fuel _ a w h) (oper_rf (hops o (Array.mem_of_getElem? e)) h1)
      · exact absurd h1.2 hL
    · rename_i hw
      rw [if_neg hw] at h1
      exact ⟨fun _ _=>trivial,any_rf hops fuel _ _ w h1⟩⟩
theorem list_rf:∀ (r:List Oper),(∀ o∈r,isDefer o.op=false)→∀ (a:Act) (w:World),wpList P ops Q r a w→wpListIn (RF l) n P ops Q r a w
 | [],_,_,_,h=>h
 | o::r,hops,a,w,h=>by
  unfold wpList at h
  unfold wpListIn
  split
  · rename_i hw
    rw [if_pos hw] at h
    rcases h with h | h
    · exact Oper.wpIn_mono (fun a w h=>list_rf r (fun o ho=>hops o (List.mem_cons_of_mem _ ho)) a w h) (oper_rf (hops o (List.mem_cons_self ..)) h)
    · exact absurd h.2 hL
  · rename_i hw
    rw [if_neg hw] at h
    exact ⟨fun _ _=>trivial,list_rf r (fun o ho=>hops o (List.mem_cons_of_mem _ ho)) _ w h⟩
end
def postI (l:Option Nat) (nn:Nat) (P:Program) (Q:Exit→Act→World→Prop):List Kf→Exit→Act→World→Prop
 | []=>Q
 | .sq c::r=>Exit.then (c.wpIn (RF l) nn P (postI l nn P Q r)) (postI l nn P Q r)
 | .bl i::r=>Exit.inBlock i (postI l nn P Q r)
 | .lp _::r=>postI l nn P Q r
 | .sc::r=>Exit.noGoto (postI l nn P Q r)
theorem postI_ret {l:Option Nat} {nn:Nat} {P:Program} {Q:Exit→Act→World→Prop} {a:Act} {w:World} (h:Q .ret a w):∀ ks,postI l nn P Q ks .ret a w
 | []=>h
 | .sq _::r=>postI_ret h r
 | .bl _::r=>postI_ret h r
 | .lp _::r=>postI_ret h r
 | .sc::r=>postI_ret h r
theorem postI_out {l:Option Nat} {nn:Nat} {P:Program} {Q:Exit→Act→World→Prop} (h:¬ LetsOut Q):∀ ks,¬ LetsOut (postI l nn P Q ks)
 | []=>h
 | .sq _::r=>postI_out h r
 | .bl _::r=>postI_out h r
 | .lp _::r=>postI_out h r
 | .sc::r=>postI_out h r
def popNl (id:Nat):List Kf→Option (List Kf)
 | []=>none
 | .bl i::r=>bif Nat.beq i id then some r else popNl id r
 | .lp _::_=>none
 | _::r=>popNl id r
theorem postI_exit {l:Option Nat} {nn:Nat} {P:Program} {Q:Exit→Act→World→Prop} {a:Act} {w:World} {i:Nat}:∀ {ks r},popNl i ks=some r→postI l nn P Q r .normal a w→postI l nn P Q ks (.exit i) a w
 | [],_,h,_=>by cases h
 | .sq _::ks,r,h,k=>postI_exit (ks:=ks) (r:=r) h k
 | .lp _::ks,r,h,k=>by cases h
 | .sc::ks,r,h,k=>postI_exit (ks:=ks) (r:=r) h k
 | .bl j::ks,r,h,k=>by
  simp only [popNl,cond_eq_ite,Nat.beq_eq] at h
  simp only [postI,Exit.inBlock]
  split at h
  · rename_i e
    obtain rfl:=Option.some.inj h
    rw [if_pos e.symm]
    exact k
  · rename_i e
    rw [if_neg (Ne.symm e)]
    exact postI_exit (ks:=ks) (r:=r) h k
inductive StopX (P:Program) where
 | ended (b:Bool) (f:Cf P)
 | range (g:Operand) (ps:Array Tmp) (x y:Code) (ks:List Kf) (f:Cf P)
def StopX.cf {P:Program}:StopX P→Cf P
 | .ended _ f=>f
 | .range _ _ _ _ _ f=>f
def endOf:Bool→Exit
 | true=>.ret
 | false=>.normal
def StopX.after {P:Program} (l:Option Nat) (nn:Nat) (Q:Exit→Act→World→Prop) (a:Act) (w:World):StopX P→Prop
 | .ended b _=>Q (endOf b) a w
 | .range g ps x y ks _=>(Code.rangeFunc g ps x y).wpIn (RF l) nn P (postI l nn P Q ks) a w
def runI (P:Program) (m0 n:Nat) (Ns:List (Nat × Nat)):Nat→Option Code→List Kf→Cf P→Option (StopX P)
 | 0,_,_,_=>none
 | m+1,oc,ks,f=>match oc with
  | none=>match ks with
   | []=>some (.ended false f)
   | .sq c::r=>runI P m0 n Ns m (some c) r f
   | .bl _::r=>runI P m0 n Ns m none r f
   | .lp _::_=>none
   | .sc::r=>runI P m0 n Ns m none r f
  | some c=>match c with
   | .skip=>runI P m0 n Ns m none ks f
   | .label _=>runI P m0 n Ns m none ks f
   | .region id ops d=>bif ops.toList.all (fun o=>!isDefer o.op) then (match (bif d then drawS1 P m0 n Ns id ops.toList f else seqS P m0 n ops ops.toList f) with
    | some f'=>runI P m0 n Ns m none ks f'
    | none=>none) else none
   | .seq a b=>runI P m0 n Ns m (some a) (.sq b::ks) f
   | .cond x a b=>match evS idE f.sl x with
    | .bool true=>runI P m0 n Ns m (some a) ks { f with cs:=(fun β=>[(.v (evS β f.sl x),.v (.bool true))])::f.cs }
    | .bool false=>runI P m0 n Ns m (some b) ks { f with cs:=(fun β=>[(.v (evS β f.sl x),.v (.bool false))])::f.cs }
    | _=>none
   | .block id c=>runI P m0 n Ns m (some c) (.bl id::ks) f
   | .exit id=>match popNl id ks with
    | some r=>runI P m0 n Ns m none r f
    | none=>none
   | .rangeFunc g ps x y=>some (.range g ps x y ks f)
   | .ret=>some (.ended true f)
   | _=>none
def toShowI (l:Option Nat) (nn:Nat) (P:Program) (Q:Exit→Act→World→Prop) (oc:Option Code) (ks:List Kf) (a:Act) (w:World):Prop:=match oc with
 | some c=>c.wpIn (RF l) nn P (postI l nn P Q ks) a w
 | none=>postI l nn P Q ks .normal a w
theorem runI_ok {P:Program} {m0 n nn:Nat} {l:Option Nat} {Ns:List (Nat × Nat)} (hm:P.follows .mixedOrders=true):∀ (m:Nat) (oc:Option Code) (ks:List Kf) (f:Cf P) (s:StopX P),runI P m0 n Ns m oc ks f=some s→f.full→(∀ x∈f.cs,x∈s.cf.cs)∧s.cf.full ∧
  (s.cf.good→∀ {B0:Bd} {w0:World} {β:Env} {a:Act} {w:World},Sync P m0 n B0 w0 f β a w→∀ (Q:Exit→Act→World→Prop),¬ LetsOut Q→(∀ β' a' w',(∀ k,k<B0.k→β' k=β k)→Sync P m0 n B0 w0 s.cf β' a' w'→s.after l nn Q a' w')→toShowI l nn P Q oc ks a w):=by
 intro m
 induction m with
 | zero=>intro oc ks f f' h; simp only [runI] at h; cases h
 | succ m ih =>
  intro oc ks f f' h hf
  simp only [runI] at h
  cases oc with
  | none =>
   dsimp only at h
   cases ks with
   | nil =>
    obtain rfl:=Option.some.inj h
    exact ⟨fun _ hx=>hx,hf,fun _ B0 w0 β a w s Q hL hQ=>hQ β a w (fun _ _=>rfl) s⟩
   | cons x r =>
    cases x with
    | sq c=>obtain ⟨i1,i2,i3⟩:=ih _ _ _ _ h hf; exact ⟨i1,i2,fun hg B0 w0 β a w s Q hL hQ=>i3 hg s Q hL hQ⟩
    | bl j=>obtain ⟨i1,i2,i3⟩:=ih _ _ _ _ h hf; exact ⟨i1,i2,fun hg B0 w0 β a w s Q hL hQ=>i3 hg s Q hL hQ⟩
    | lp c=>cases h
    | sc=>obtain ⟨i1,i2,i3⟩:=ih _ _ _ _ h hf; exact ⟨i1,i2,fun hg B0 w0 β a w s Q hL hQ=>i3 hg s Q hL hQ⟩
  | some c =>
   cases c with
   | skip=>obtain ⟨i1,i2,i3⟩:=ih _ _ _ _ h hf; exact ⟨i1,i2,fun hg B0 w0 β a w s Q hL hQ=>wpIn_skip (i3 hg s Q hL hQ)⟩
   | label l=>obtain ⟨i1,i2,i3⟩:=ih _ _ _ _ h hf; exact ⟨i1,i2,fun hg B0 w0 β a w s Q hL hQ=>wpIn_label (i3 hg s Q hL hQ)⟩
   | region rid ops d =>
    dsimp only at h
    rw [cond_eq_ite] at h
    split at h
    · rename_i hdf
      have hdf2:∀ o∈ops.toList,isDefer o.op=false:=fun o ho=>by
       have:=List.all_eq_true.1 hdf o ho
       simpa using this
      split at h
      · rename_i f1 h1
        cases d with
        | true =>
         simp only [cond_true] at h1
         have hf1:=drawS1_full h1 hf
         obtain ⟨i1,i2,i3⟩:=ih _ _ _ _ h hf1
         obtain ⟨j1,j2⟩:=drawS1_ok hm h1 (fun k hk=>(hf.1 k).1 hk) hf.2
         refine ⟨fun x hx=>i1 x (j1 x hx),i2,fun hg B0 w0 β a w s Q hL hQ=>?_⟩
         have:=j2 (fun β x hx=>hg β x (i1 x hx)) s (postI l nn P Q ks) fun β' a' w' e s'=>i3 hg s' Q hL fun β2 a2 w2 e2 s2=>hQ β2 a2 w2 (fun k hk=>(e2 k hk).trans (e k hk)) s2
         unfold RegAny at this
         simp only [Array.toArray_toList] at this
         exact wpIn_region_any hm (any_rf (postI_out hL ks) (fun o ho=>hdf2 o (by simpa using ho)) _ _ _ _ this)
        | false =>
         simp only [cond_false] at h1
         have hf1:=seqS_full h1 hf
         obtain ⟨i1,i2,i3⟩:=ih _ _ _ _ h hf1
         obtain ⟨j1,j2⟩:=seqS_ok h1
         exact ⟨fun x hx=>i1 x (j1 x hx),i2,fun hg B0 w0 β a w s Q hL hQ=>wpIn_region_list (list_rf (postI_out hL ks) _ hdf2 _ _ (j2 (fun β x hx=>hg β x (i1 x hx)) s (postI l nn P Q ks) fun β' a' w' e s'=>i3 hg s' Q hL fun β2 a2 w2 e2 s2=>hQ β2 a2 w2 (fun k hk=>(e2 k hk).trans (e k hk)) s2))⟩
      · cases h
    · cases h
   | seq c d=>obtain ⟨i1,i2,i3⟩:=ih _ _ _ _ h hf; exact ⟨i1,i2,fun hg B0 w0 β a w s Q hL hQ=>wpIn_seq (i3 hg s Q hL hQ)⟩
   | cond x c d =>
    dsimp only at h
    split at h
    · obtain ⟨i1,i2,i3⟩:=ih _ _ _ _ h hf
      refine ⟨fun y hy=>i1 y (List.mem_cons_of_mem _ hy),i2,fun hg B0 w0 β a w s Q hL hQ=>?_⟩
      obtain ⟨e,_⟩:=Eqs.cons_ok (hg β _ (i1 _ (List.mem_cons_self ..)))
      injection e with e
      exact wpIn_cond_true (by rw [s.sl.eval]; exact e) (i3 hg (s.cs _) Q hL hQ)
    · obtain ⟨i1,i2,i3⟩:=ih _ _ _ _ h hf
      refine ⟨fun y hy=>i1 y (List.mem_cons_of_mem _ hy),i2,fun hg B0 w0 β a w s Q hL hQ=>?_⟩
      obtain ⟨e,_⟩:=Eqs.cons_ok (hg β _ (i1 _ (List.mem_cons_self ..)))
      injection e with e
      exact wpIn_cond_false (by rw [s.sl.eval]; exact e) (i3 hg (s.cs _) Q hL hQ)
    · cases h
   | block j c=>obtain ⟨i1,i2,i3⟩:=ih _ _ _ _ h hf; exact ⟨i1,i2,fun hg B0 w0 β a w s Q hL hQ=>wpIn_block (i3 hg s Q hL hQ)⟩
   | exit j =>
    dsimp only at h
    split at h
    · rename_i r hr
      obtain ⟨i1,i2,i3⟩:=ih _ _ _ _ h hf
      exact ⟨i1,i2,fun hg B0 w0 β a w s Q hL hQ=>wpIn_exit (postI_exit hr (i3 hg s Q hL hQ))⟩
    · cases h
   | rangeFunc g ps x y =>
    obtain rfl:=Option.some.inj h
    exact ⟨fun _ hx=>hx,hf,fun _ B0 w0 β a w s Q hL hQ=>hQ β a w (fun _ _=>rfl) s⟩
   | ret =>
    obtain rfl:=Option.some.inj h
    exact ⟨fun _ hx=>hx,hf,fun _ B0 w0 β a w s Q hL hQ=>wpIn_ret (postI_ret (hQ β a w (fun _ _=>rfl) s) ks)⟩
   | _=>cases h
def bdR (k:Nat) (w:World) (m0:Nat) (ex:Nat→Bool) (obj:Nat→Option Ob) (β:Env) (df:List Deferred):Bd :=
 ⟨w.heap.size,fun c=>∃ i x,ex i=true∧m0≤i∧obj i=some x∧x.mine=true∧c=(β i).b,k,fun c=>∃ k,ex k=true∧m0≤k∧(β k).F c,df⟩
section
variable {B:Bd} {m0:Nat} {w0:World} {ex:Nat→Bool} {obj:Nat→Option Ob} {β:Env} {w:World} (h:Good B m0 w0 ex obj β w)
include h
theorem Good.restart (kk:Nat) (df:List Deferred):Good (bdR kk w m0 ex obj β df) m0 w ex obj β w :=
 ⟨Keep.refl _ _,Nat.le_refl _,h.hold,h.lt,h.ne,fun k x hk hm hx hmi=>.inr ⟨k,x,hk,hm,hx,hmi,rfl⟩,fun k hk hm c hc=>.inl (.inr ⟨k,hk,hm,hc⟩),h.ar,h.al,h.alb,h.ord⟩
theorem Good.back_has {kk:Nat} {df:List Deferred} {c:Nat} (hc:(bdR kk w m0 ex obj β df).has c):B.has c:=by
 rcases hc with hc | ⟨k,x,hk,hm,hx,hmi,rfl⟩
 · exact .inl (Nat.le_trans h.le hc)
 · exact h.lowm k x hk hm hx hmi
theorem Keep.back {kk:Nat} {df:List Deferred} {w':World} (k:Keep (bdR kk w m0 ex obj β df) w w'):Keep B w0 w' :=
 h.bel.trans ⟨k.os,k.tape,k.output,k.size,fun i hi hs=>k.block i (Nat.lt_of_lt_of_le hi h.le) fun hc=>(h.back_has (.inr hc)).elim (fun a=>absurd hi (Nat.not_lt.2 a)) hs⟩
theorem Good.back {kk:Nat} {df:List Deferred} {ex':Nat→Bool} {obj':Nat→Option Ob} {β':Env} {w':World} (h':Good (bdR kk w m0 ex obj β df) m0 w ex' obj' β' w') (hβ:∀ i,i<m0→β' i=β i):Good B m0 w0 ex' obj' β' w':=by
 refine ⟨Keep.back h h'.bel,Nat.le_trans h.le h'.bel.size,h'.hold,h'.lt,h'.ne,fun k x hk hm hx hmi=>h.back_has (h'.lowm k x hk hm hx hmi),fun k hk hm c hc=>?_,h'.ar,h'.al,h'.alb,h'.ord⟩
 rcases h'.fr k hk hm c hc with (h1 | ⟨j,h1,h2,h3⟩) | h1
 · exact .inl (.inl (h.back_has h1))
 · exact (h.fr j h1 h2 c h3).imp id fun ⟨i,i1,i2⟩=>⟨i,i1,by rw [hβ i i1]; exact i2⟩
 · exact .inr h1
theorem Good.side {b o n:Nat} {w':World} (hw:NW w b) (ht:Touch w w' b o n) (hB:B.has b) (hF:∀ k x,ex k=true→obj k=some x→x≠.dead→¬ (β k).F b):Good B m0 w0 ex obj β w':=by
 refine ⟨h.bel.touch ht hB h.le,Nat.le_trans h.le ht.size,?_,fun k hk c hc=>Nat.lt_of_lt_of_le (h.lt k hk c hc) ht.size,h.ne,h.lowm,h.fr,h.ar,h.al,h.alb,h.ord⟩
 intro k x hk hx
 refine ⟨?_,(h.hold k x hk hx).2⟩
 have hh:=(h.hold k x hk hx).1
 by_cases hdd:x=.dead
 · rw [hdd]; exact trivial
 have hne:=hF k x hk hx hdd
 have hblk:(β k).one→w'.heap[(β k).b]?=w.heap[(β k).b]?:=fun h1=>ht.block _ (h.lt k hk _ ((h1.1 _).2 rfl)) fun e=>hne ((h1.1 _).2 e.symm)
 cases x with
 | box cs' t' =>
  simp only [Ob.holds] at hh ⊢
  rw [hblk hh.1]
  exact hh
 | row cs' t' n' sz' =>
  simp only [Ob.holds] at hh ⊢
  rw [hblk hh.1]
  exact hh
 | ow D u=>exact ⟨⟨hh.1.1,hh.1.2.1,by rw [ht.block _ (h.lt k hk _ hh.1.1) (fun e=>hne (by rw [← e]; exact hh.1.1))]; exact hh.1.2.2⟩,D.st.touch w _ _ _ _ _ 0 hh.2 hw ht hne⟩
 | th D=>exact D.st.touch w _ _ _ _ _ 0 hh hw ht hne
 | al r D=>exact D.st.touch w _ _ _ _ _ 0 hh hw ht hne
 | pl n=>exact ⟨hh.1,Slot.touch hh.2 ht⟩
 | dead=>exact trivial
end
theorem grown_touch {w w':World} {r:Nat} {o:Obj} (g:w.grownBy w' (some r)) (h:w.heap[r]?=some o) (hc:o.isCells=false):NW w r∧Touch w w' r 0 0 :=
 ⟨fun cs fr e=>(by rw [h] at e; cases e; cases hc),⟨g.os,g.tape,g.output,g.size,fun k hk hne=>g.block k hk (fun e=>hne (Option.some.inj e)),fun cs t fr e=>(by rw [h] at e; cases e; cases hc)⟩⟩
def obClB:Ob→Bool
 | .th t=>t.cl
 | .al _ t=>t.cl
 | .ow _ _=>false
 | _=>true
theorem ob_cells {x:Ob} (h:obClB x=true) (hd:x≠.dead) {β:Env} {w:World} {g:Pl} (hh:x.holds β w g) (c:Nat) (hc:g.F c):∃ cs t fr,w.heap[c]?=some (.cells cs t fr):=by
 cases x with
 | box cs t=>rw [(hh.1.1 c).1 hc]; exact ⟨_,_,_,hh.2⟩
 | row cs t n sz=>rw [(hh.1.1 c).1 hc]; exact ⟨_,_,_,hh.2.choose_spec.1⟩
 | th t=>exact t.clok h w g hh c hc
 | al r t=>exact t.clok h w g hh c hc
 | pl n=>rw [(hh.1.1 c).1 hc]; obtain ⟨cs,t,h1,_⟩:=hh.2; exact ⟨_,_,_,h1⟩
 | ow D t=>cases h
 | dead=>exact absurd rfl hd
theorem Good.grown {B:Bd} {m0:Nat} {w0:World} {ex:Nat→Bool} {obj:Nat→Option Ob} {β:Env} {w w':World} (h:Good B m0 w0 ex obj β w) (hC:∀ k x,ex k=true→obj k=some x→obClB x=true) {row:Option Nat} (g:w.grownBy w' row) (hr:∀ r,row=some r→B.n≤r∧∃ o:Obj,w.heap[r]?=some o∧o.isCells=false):Good B m0 w0 ex obj β w':=by
 cases row with
 | none=>exact h.on ⟨g.os,g.tape,g.output,g.size,fun k hk=>g.block k hk (fun e=>by cases e)⟩
 | some r =>
  obtain ⟨h1,o,h2,h3⟩:=hr r rfl
  obtain ⟨t1,t2⟩:=grown_touch g h2 h3
  refine h.side t1 t2 (.inl h1) fun k x hk hx hd hF=>?_
  obtain ⟨cs,t,fr,k1⟩:=ob_cells (hC k x hk hx) hd (h.hold k x hk hx).1 r hF
  rw [h2] at k1
  cases k1
  cases h3
def postR (B:Nat) (I Ix:World→Prop) (W:World):Exit→Act→World→Prop
 | .normal,_,W'=>KeepsFrom B W W'∧I W'
 | .ret,_,W'=>KeepsFrom B W W'∧Ix W'
 | _,_,_=>False
theorem postR_out {B:Nat} {I Ix:World→Prop} {W:World}:¬ LetsOut (postR B I Ix W):=fun ⟨_,_,h⟩=>h
theorem rf_law {P:Program} {n:Nat} {g:Operand} {ps:Array Tmp} {assign body:Code} {Q:Exit→Act→World→Prop} {a:Act} {w:World}
  {gf:Nat} {lb:Array Value} (hg:a.eval g=.func (.func gf) #[] lb) (eg:∀ args w,(callFunc gf args).run P w=.ok (.enter gf args) w)
  (N:Nat) (encs:Nat→Array Value) (I:Nat→World→Prop) (hps:∀ k W,I k W→k<N→(encs k).size=ps.size) (Ix:World→Prop)
  (hI:∀ k W W' row,I k W→W.grownBy W' row→(∀ r,row=some r→w.heap.size≤r∧∃ o:Obj,W.heap[r]?=some o∧o.isCells=false)→I k W')
  (hIx:∀ W W' row,Ix W→W.grownBy W' row→(∀ r,row=some r→w.heap.size≤r∧∃ o:Obj,W.heap[r]?=some o∧o.isCells=false)→Ix W')
  (h0:I 0 w)
  (hiter:∀ (l:Nat) (J:Nat→World→Prop) (Jx:World→Prop) (W:World),(∀ k W,J k W→I k W) →
   (∀ k W1,J k W1→k<N→YieldAt Fence.wide (n-1-1) P l (encs k) W1 fun e W'=>(e=.returned (.bool true)∧J (k+1) W')∨(e=.returned (.bool false)∧Jx W'))→J 0 W →
   CallsIn Fence.wide (n-1) P gf (#[.func (.yield l) #[] #[]]++lb) W fun e W'=>(∃ v,e=.returned v)∧(J N W'∨Jx W'))
  (hround:∀ (l k:Nat) (W:World),w.heap.size≤l→(∃ o:Obj,W.heap[l]?=some o∧o.isCells=false)→I k W→k<N →
   assign.wpIn (RF (some l)) (n-1-1) P (Exit.then (fun a1 W1=>KeepsFrom w.heap.size W W1∧∀ W2,W1.grownBy W2 (some l)→body.wpIn (RF (some l)) (n-1-1) P (postR w.heap.size (I (k+1)) Ix W2) a1 W2) (fun _ _ _=>False))
    { tmps:=(ps.zip (encs k)).foldl (fun t (p,v)=>t.setIfInBounds p v) a.tmps,defers:=[] } W)
  (hdone:∀ (D:Nat) (W:World),w.heap.size≤D→I N W→W.heap[D]?=some (.deferred (some []))→Q .normal { a with defers:={ target:=.collected D,args:=#[] }::a.defers } W)
  (hstop:∀ (D:Nat) (W:World),w.heap.size≤D→Ix W→W.heap[D]?=some (.deferred (some []))→Q .ret { a with defers:={ target:=.collected D,args:=#[] }::a.defers } W) :
  (Code.rangeFunc g ps assign body).wpIn Fence.wide n P Q a w:=by
 refine wpIn_rangeFunc ?_
 intro fn hfn
 obtain ⟨rec,hrec⟩:∃ rec:LoopState→Option Code→Loop,rec=fun st pe=>{ state:=st,pending:=pe,fn,tmps:=a.tmps,params:=ps,assign,body,defers:=w.heap.size }:=⟨_,rfl⟩
 obtain ⟨W1,hW1⟩:∃ W1,(w.alloc (.deferred (some []))).alloc (.loop (rec .ready none))=W1:=⟨_,rfl⟩
 have hL1:W1.heap[w.heap.size+1]?=some (.loop (rec .ready none)):=by
  rw [← hW1]; have:=World.alloc_heap_new (w.alloc (.deferred (some []))) (.loop (rec .ready none)); rwa [World.size_alloc] at this
 have hK1:W1.heap[w.heap.size]?=some (.deferred (some [])):=by
  rw [← hW1]; exact (Below.heap_alloc _ _ _ (by simp)).trans (World.alloc_heap_new w _)
 have nor:∀ {X:World} (r:Nat),(none:Option Nat)=some r→w.heap.size≤r∧∃ o:Obj,X.heap[r]?=some o∧o.isCells=false:=fun r e=>by cases e
 have hI1:I 0 W1:=by rw [← hW1]; exact hI _ _ _ none (hI _ _ _ none h0 (World.grownBy_alloc w _ none) nor) (World.grownBy_alloc _ _ none) nor
 refine ⟨w.heap.size+1,[{ target:=.collected w.heap.size,args:=#[] }],W1,{ target:=.fn (.func gf) lb,args:=#[.func (.yield (w.heap.size+1)) #[] #[]] },W1,gf,
  #[.func (.yield (w.heap.size+1)) #[] #[]]++lb,W1,?_,?_,?_,?_,fun e=>(by simp [Fence.wide] at e),?_⟩
 · rw [← hW1,hrec]; exact run_enterLoop_outer _ _ _ _ _
 · simp only [resolve,hg]
   simp [go_sem]
 · intro f' hf'; trivial
 · simp [invoke,go_sem,eg]
 · refine (hiter (w.heap.size+1)
    (fun k W=>I k W∧W.heap[w.heap.size+1]?=some (.loop (rec .ready none))∧W.heap[w.heap.size]?=some (.deferred (some [])))
    (fun W=>Ix W∧W.heap[w.heap.size+1]?=some (.loop (rec .done (some .ret)))∧W.heap[w.heap.size]?=some (.deferred (some [])))
    W1 (fun k W h=>h.1) ?_ ⟨hI1,hL1,hK1⟩).mono ?_
   · rintro k W ⟨hi,hl,hk⟩ hlen
     have hy:=run_yield (P:=P) (args:=encs k) hl (by rw [hrec]; exact hps k W hi hlen)
     rw [hrec] at hy
     refine ⟨fn,_,assign,body,hy,roundIn_of_wpIn hfn ?_⟩
     refine wpIn_mono (hround (w.heap.size+1) k W (by omega) ⟨_,hl,rfl⟩ hi hlen) ?_
     rintro e a1 W2 h2
     cases e with
     | normal =>
      obtain ⟨hk2,h2⟩:=h2
      have hl2:=hk2.same _ _ (by omega) hl rfl
      have hd2:=hk2.same _ _ (Nat.le_refl _) hk rfl
      have hlt:w.heap.size+1<W2.heap.size:=(Array.getElem?_eq_some_iff.1 hl2).1
      refine ⟨_,run_beginRound hl2 (by rw [hrec]),?_⟩
      have hl3:(W2.putObj (w.heap.size+1) (.loop { rec .ready none with state:=.busy })).heap[w.heap.size+1]?=some (.loop { rec .ready none with state:=.busy }):=World.putObj_heap_same hlt
      have hd3:(W2.putObj (w.heap.size+1) (.loop { rec .ready none with state:=.busy })).heap[w.heap.size]?=some (.deferred (some [])):=(World.putObj_heap_other (by omega)).trans hd2
      refine wpIn_mono (h2 _ (grownBy_putObj' W2 _ _)) ?_
      have fin:∀ (jump:Option Code) (W3:World),KeepsFrom w.heap.size (W2.putObj (w.heap.size+1) (.loop { rec .ready none with state:=.busy })) W3 →
        (Instr.endRound (w.heap.size+1) jump).run P W3=.ok (.bool jump.isNone) (W3.putObj (w.heap.size+1) (.loop (rec (if jump.isNone then .ready else .done) jump))) ∧
        W3.heap[w.heap.size+1]?=some (.loop { rec .ready none with state:=.busy }) ∧
        (W3.putObj (w.heap.size+1) (.loop (rec (if jump.isNone then .ready else .done) jump))).heap[w.heap.size+1]?=some (.loop (rec (if jump.isNone then .ready else .done) jump)) ∧
        (W3.putObj (w.heap.size+1) (.loop (rec (if jump.isNone then .ready else .done) jump))).heap[w.heap.size]?=some (.deferred (some [])):=fun jump W3 hk3=>by
       have hl4:=hk3.same _ _ (by omega) hl3 rfl
       have:=run_endRound (P:=P) jump hl4
       rw [hrec] at this ⊢
       exact ⟨this,by rw [hrec] at hl4; exact hl4,World.putObj_heap_same (Array.getElem?_eq_some_iff.1 hl4).1,(World.putObj_heap_other (by omega)).trans (hk3.same _ _ (Nat.le_refl _) hd3 rfl)⟩
      have one:∀ {X:World} {o:Obj},X.heap[w.heap.size+1]?=some o→o.isCells=false→∀ r,some (w.heap.size+1)=some r→w.heap.size≤r∧∃ o:Obj,X.heap[r]?=some o∧o.isCells=false:=fun h1 h2 r e=>by cases e; exact ⟨by omega,_,h1,h2⟩
      rintro e a3 W3 hp
      cases e with
      | normal =>
       obtain ⟨hk3,hi3⟩:=hp
       obtain ⟨hr,hl4,hl5,hk5⟩:=fin none W3 hk3
       exact ⟨_,_,hr,.inl ⟨rfl,hI _ _ _ _ hi3 (grownBy_putObj' W3 _ _) (one hl4 rfl),hl5,hk5⟩⟩
      | ret =>
       obtain ⟨hk3,hi3⟩:=hp
       obtain ⟨hr,hl4,hl5,hk5⟩:=fin (some .ret) W3 hk3
       exact ⟨_,_,hr,.inr ⟨rfl,hIx _ _ _ hi3 (grownBy_putObj' W3 _ _) (one hl4 rfl),hl5,hk5⟩⟩
      | exit id=>exact hp.elim
      | goto t=>exact hp.elim
      | panic ch=>exact hp.elim
      | outgrown=>exact hp.elim
     | exit id=>exact h2.elim
     | ret=>exact h2.elim
     | goto t=>exact h2.elim
     | panic ch=>exact h2.elim
     | outgrown=>exact h2.elim
   · rintro e W2 ⟨⟨v,rfl⟩,(⟨hi,hl,hk⟩ | ⟨hi,hl,hk⟩)⟩
     · refine ⟨none,_,by have:=run_endLoop (P:=P) hl (by rw [hrec]; simp); rw [hrec] at this; exact this,hdone _ _ (Nat.le_refl _) (hI _ _ _ _ hi (grownBy_putObj' W2 _ _) fun r e=>?_) ((World.putObj_heap_other (by omega)).trans hk)⟩
       cases e; exact ⟨by omega,_,hl,rfl⟩
     · refine ⟨some .ret,_,by have:=run_endLoop (P:=P) hl (by rw [hrec]; simp); rw [hrec] at this; exact this,wpIn_ret (hstop _ _ (Nat.le_refl _) (hIx _ _ _ hi (grownBy_putObj' W2 _ _) fun r e=>?_) ((World.putObj_heap_other (by omega)).trans hk))⟩
       cases e; exact ⟨by omega,_,hl,rfl⟩
def setPs:List (Nat × SV)→List Nat→List SV→List (Nat × SV)
 | sl,p::ps,x::xs=>setPs (putS sl (some p) x) ps xs
 | sl,_,_=>sl
def roundS (P:Program) (m0 n:Nat) (Ns:List (Nat × Nat)) (m:Nat) (ps:Array Tmp) (x y:Code) (sl0:List (Nat × SV)) (v:List SV) (f:Cf P):Option (Bool × Cf P) :=
 bif Nat.beq v.length ps.size&&(v.all (SV.of fun _=>false)&&ps.toList.all (fun p=>Nat.blt p n)) then
  match runI P m0 n Ns m (some x) [] { f with sl:=setPs sl0 ps.toList v } with
  | some (.ended false f1)=>bif f1.ob.all obClB then (match runI P m0 n Ns m (some y) [] f1 with
   | some (.ended b f2)=>some (b,{ f2 with sl:=sl0 })
   | _=>none) else none
  | _=>none
 else none
def rangeE (P:Program) (fn:Func) (m0 n:Nat) (Ns:List (Nat × Nat)) (m:Nat) (res:SV) (need:List (Nat × Ob)) (ps:Array Tmp) (x y:Code) (ks:List Kf) (sl0:List (Nat × SV)):List (List SV)→Cf P→Env→Eqs
 | [],f,β=>(bif f.ob.all obClB then [] else Eqs.no)++(needEqs f.q f.ob need++(match runI P m0 n Ns m none ks f with
  | some (.ended _ fB)=>(bif fB.ob.all obClB then [] else Eqs.no)++fin1 P fn m0 n res [] fB β
  | _=>Eqs.no))
 | v::r,f,β=>(bif f.ob.all obClB then [] else Eqs.no)++(needEqs f.q f.ob need++(match roundS P m0 n Ns m ps x y sl0 v f with
  | some (false,f')=>rangeE P fn m0 n Ns m res need ps x y ks sl0 r f' β
  | some (true,f')=>(bif f'.ob.all obClB then [] else Eqs.no)++fin1 P fn m0 n res [] f' β
  | none=>Eqs.no))
def allX (P:Program) (fn:Func) (args:List SV) (obs:List Ob) (evs:List (Ev P)) (Ns:List (Nat × Nat)) (m:Nat) (res:SV) (need:List (Nat × Ob)) (vs:List (List SV)) (gf:Nat) (lb:Env→Array Value) (β:Env):Eqs :=
 match fn.body with
 | some c=>match runI P obs.length (sizeS fn args) Ns m (some c) [] ⟨startS args 0,fun k=>Nat.blt k obs.length,obs,evs,[]⟩ with
  | some (.range g ps x y ks f)=>(bif need.all (fun p=>Nat.blt p.1 f.ob.length&&p.2.of (fun k=>Nat.blt k f.ob.length)) then [] else Eqs.no) ++
    ((.v (evS β f.sl g),.v (.func (.func gf) #[] (lb β)))::rangeE P fn obs.length (sizeS fn args) Ns m res need ps x y ks f.sl vs f β)
  | _=>Eqs.no
 | none=>Eqs.no
theorem all_cl {f:List Ob} (h:f.all obClB=true) {q:Nat→Bool}:∀ k x,q k=true→f[k]?=some x→obClB x=true:=fun k x _ hx=>List.all_eq_true.1 h x (List.mem_of_getElem? hx)
theorem keeps_from {k m0 B:Nat} {w w' w0:World} {B0:Bd} {ex:Nat→Bool} {obj:Nat→Option Ob} {β:Env} {df:List Deferred} (hg:Good B0 m0 w0 ex obj β w) (hC:∀ k x,ex k=true→obj k=some x→obClB x=true) (h:Keep (bdR k w m0 ex obj β df) w w'):KeepsFrom B w w' :=
 ⟨h.size,fun i o _ hi ho=>(h.block i (heap_lt hi) fun ⟨j,x,h1,h2,h3,h4,h5⟩=>by
  have hh:=(hg.hold j x h1 h3).1
  have hc:=hC j x h1 h3
  subst h5
  cases x with
  | box cs t=>rw [hh.2] at hi; cases hi; cases ho
  | row cs t n sz=>rw [hh.2.choose_spec.1] at hi; cases hi; cases ho
  | pl n=>obtain ⟨cs,t,k1,_⟩:=hh.2; rw [k1] at hi; cases hi; cases ho
  | ow D t=>cases hc
  | th t=>cases h4
  | al r t=>cases h4
  | dead=>cases h4).trans hi⟩
theorem setPs_ok {β:Env} {n:Nat}:∀ (ps:List Nat) (v:List SV) (sl:List (Nat × SV)) (a:Act),ps.length=v.length→ps.all (fun p=>Nat.blt p n)=true→SlOk β a sl n →
  SlOk β { a with tmps:=(ps.zip (v.map (SV.den β))).foldl (fun t (p,v)=>t.setIfInBounds p v) a.tmps } (setPs sl ps v) n
 | [],[],sl,a,_,_,h=>h
 | [],_::_,_,_,h,_,_=>by simp at h
 | _::_,[],_,_,h,_,_=>by simp at h
 | p::ps,x::v,sl,a,hl,hp,h=>by
  rw [List.all_cons,Bool.and_eq_true] at hp
  have h1:=h.put (d:=some p) hp.1 x rfl
  exact setPs_ok ps v _ _ (by simpa using hl) hp.2 h1
theorem setPs_of {q:Nat→Bool}:∀ (ps:List Nat) (v:List SV) (sl:List (Nat × SV)),v.all (SV.of fun _=>false)=true→SlOf q sl→SlOf q (setPs sl ps v)
 | [],_,_,_,h=>h
 | _::_,[],_,_,h=>h
 | p::ps,x::v,sl,hv,h=>by
  rw [List.all_cons,Bool.and_eq_true] at hv
  exact setPs_of ps v _ hv.2 (h.put _ (SV.of_mono (fun k hk=>by cases hk) _ hv.1))
theorem Sync.restart {P:Program} {m0 n:Nat} {B0:Bd} {w0:World} {f:Cf P} {β:Env} {a:Act} {w:World} (s:Sync P m0 n B0 w0 f β a w) (df:List Deferred) (a':Act) (ha:a'.tmps=a.tmps) (hd:a'.defers=df):Sync P m0 n (bdR f.ob.length w m0 f.q (fun k=>f.ob[k]?) β df) w f β a' w :=
 ⟨s.good.restart _ df,s.q,⟨by rw [ha]; exact s.sl.1,fun t=>by rw [ha]; exact s.sl.2 t⟩,s.of,⟨s.m0.1,Nat.le_refl _⟩,hd,s.uq⟩
theorem roundS_ok {P:Program} {m0 n nn l:Nat} {Ns:List (Nat × Nat)} {m:Nat} {ps:Array Tmp} {x y:Code} {sl0:List (Nat × SV)} {v:List SV} {f f':Cf P} {b:Bool} (hm:P.follows .mixedOrders=true) (h:roundS P m0 n Ns m ps x y sl0 v f=some (b,f')) (hf:f.full) (hsl:f.sl=sl0) :
  (∀ z∈f.cs,z∈f'.cs)∧f'.full∧f'.sl=sl0∧v.length=ps.size∧v.all (SV.of fun _=>false)=true∧(f'.good→f.ob.all obClB=true→∀ {B0:Bd} {w0:World} {β:Env} {a:Act} {W:World},Sync P m0 n B0 w0 f β a W→B0.df=[]→B0.k≤f.ob.length→∀ (S:Nat),(S≤l∧B0.n≤l)→(∃ o:Obj,W.heap[l]?=some o∧o.isCells=false)→∀ (I Ix:World→Prop),
   (∀ β' W',(∀ i,i<f.ob.length→β' i=β i)→Sync P m0 n B0 w0 f' β' a W'→(b=false→I W')∧(b=true→Ix W')) →
   x.wpIn (RF (some l)) nn P (Exit.then (fun a1 W1=>KeepsFrom S W W1∧∀ W2,W1.grownBy W2 (some l)→y.wpIn (RF (some l)) nn P (postR S I Ix W2) a1 W2) (fun _ _ _=>False))
    { tmps:=(ps.zip (v.map (SV.den β)).toArray).foldl (fun t (p,v)=>t.setIfInBounds p v) a.tmps,defers:=[] } W):=by
 unfold roundS at h
 rw [cond_eq_ite] at h
 split at h
 · rename_i hb
   rw [Bool.and_eq_true,Bool.and_eq_true,Nat.beq_eq] at hb
   obtain ⟨hb1,hb2,hb3⟩:=hb
   split at h
   · rename_i f1 hr1
     rw [cond_eq_ite] at h
     split at h
     · rename_i hc1
       split at h
       · rename_i b2 f2 hr2
         injection h with h
         injection h with e1 e2
         subst e1 e2
         obtain ⟨i1,i2,i3⟩:=runI_ok (l:=some l) (nn:=nn) hm _ _ _ _ _ hr1 (show Cf.full { f with sl:=setPs sl0 ps.toList v } from hf)
         obtain ⟨j1,j2,j3⟩:=runI_ok (l:=some l) (nn:=nn) hm _ _ _ _ _ hr2 i2
         refine ⟨fun z hz=>j1 z (i1 z hz),j2,rfl,hb1,hb2,fun hg hcl B0 w0 β a W s hdf hk S hS hl I Ix hI=>?_⟩
         have g1:f1.good:=fun β z hz=>hg β z (j1 z hz)
         have s0:Sync P m0 n (bdR f.ob.length W m0 f.q (fun k=>f.ob[k]?) β []) W { f with sl:=setPs sl0 ps.toList v } β { tmps:=(ps.zip (v.map (SV.den β)).toArray).foldl (fun t (p,v)=>t.setIfInBounds p v) a.tmps,defers:=[] } W:=by
          refine ⟨s.good.restart _ [],s.q,?_,?_,⟨s.m0.1,Nat.le_refl _⟩,rfl,s.uq⟩
          · have:=setPs_ok (β:=β) (n:=n) ps.toList v sl0 { tmps:=a.tmps,defers:=[] } (by rw [hb1]; simp) hb3 (by rw [← hsl]; exact ⟨s.sl.1,s.sl.2⟩)
            rw [← Array.foldl_toList,Array.toList_zip]
            exact this
          · exact setPs_of _ _ _ hb2 (by rw [← hsl]; exact s.of)
         refine i3 g1 s0 _ (fun ⟨_,_,h⟩=>h.elim) fun β1 a1 W1 e1 s1=>?_
         have hkf:KeepsFrom S W W1:=keeps_from s.good (all_cl hcl) s1.good.bel
         refine ⟨hkf,fun W2 hgr=>?_⟩
         obtain ⟨o,ho1,ho2⟩:=hl
         have ho3:=hkf.same l o hS.1 ho1 ho2
         have hlt:l<W.heap.size:=heap_lt ho1
         have gb:=Good.back s.good s1.good fun i hi=>e1 i (Nat.lt_of_lt_of_le hi s.m0.1)
         have g2:Good B0 m0 w0 f1.q (fun k=>f1.ob[k]?) β1 W2:=gb.grown (all_cl hc1) hgr fun r e=>by cases e; exact ⟨hS.2,o,ho3,ho2⟩
         have hlen1:f.ob.length≤f1.ob.length:=s1.m0.2
         have s2:Sync P m0 n (bdR f1.ob.length W2 m0 f1.q (fun k=>f1.ob[k]?) β1 []) W2 f1 β1 a1 W2:=⟨g2.restart _ [],s1.q,s1.sl,s1.of,⟨s1.m0.1,Nat.le_refl _⟩,s1.defers,s1.uq⟩
         refine j3 hg s2 _ postR_out fun β2 a2 W3 e2 s3=>?_
         have hkf2:KeepsFrom S W2 W3:=keeps_from g2 (all_cl hc1) s3.good.bel
         have gb2:=Good.back g2 s3.good fun i hi=>e2 i (Nat.lt_of_lt_of_le hi s1.m0.1)
         have hlen2:f1.ob.length≤f2.ob.length:=s3.m0.2
         have he:∀ i,i<f.ob.length→β2 i=β i:=fun i hi=>(e2 i (Nat.lt_of_lt_of_le hi hlen1)).trans (e1 i hi)
         have sE:Sync P m0 n B0 w0 { f2 with sl:=sl0 } β2 a W3:=by
          refine ⟨gb2,s3.q,?_,fun t=>?_,⟨s3.m0.1,by show B0.k≤f2.ob.length; omega⟩,s.defers,s3.uq⟩
          · have:=s.sl.congr (β':=β2) s.of fun k hk=>(he k ((s.q k).1 hk)).symm
            rw [hsl] at this
            exact this
          · have:=s.of t
            rw [hsl] at this
            exact SV.of_mono (fun k hk=>(s3.q k).2 (by have:=(s.q k).1 hk; show k<f2.ob.length; omega)) _ this
         obtain ⟨k1,k2⟩:=hI β2 W3 he sE
         cases b2 with
         | false=>exact ⟨hkf2,k1 rfl⟩
         | true=>exact ⟨hkf2,k2 rfl⟩
       · cases h
     · cases h
   · cases h
 · cases h
def stS (P:Program) (m0 n:Nat) (Ns:List (Nat × Nat)) (m:Nat) (ps:Array Tmp) (x y:Code) (sl0:List (Nat × SV)):List (List SV)→Cf P→Nat→Option (Cf P)
 | _,f,0=>some f
 | v::r,f,k+1=>match roundS P m0 n Ns m ps x y sl0 v f with
  | some (false,f')=>stS P m0 n Ns m ps x y sl0 r f' k
  | _=>none
 | [],_,_+1=>none
theorem fin_val {P:Program} {fn:Func} {m0 n:Nat} {res:SV} {f:Cf P} (h:∀ β,Eqs.ok (fin1 P fn m0 n res [] f β)):f.good∧∀ {B:Bd} {w0:World} {β:Env} {a:Act} {W:World},Good B m0 w0 f.q (fun k=>f.ob[k]?) β W→(∀ k,f.q k=true↔k<f.ob.length)→SlOk β a f.sl n→m0≤f.ob.length →
  (results fn a.tmps).run P W=.ok (res.den β) W:=by
 have fin:∃ r:R1 Value,run1 P m0 false (results fn (tmpsS idE f.sl n)) f.q f.ob []=some r∧res.of f.q=true∧r.ob.length=f.ob.length ∧
   ∀ β,Eqs.ok (chk P β (results fn (tmpsS β f.sl n)) r.tr.reverse (fun u=>[(.v u,.v (res.den β))])++(needEqs f.q f.ob []++eqsOf β f.cs)):=by
  cases hx:run1 P m0 false (results fn (tmpsS idE f.sl n)) f.q f.ob [] with
  | none=>have:=h idE; unfold fin1 at this; rw [hx] at this; exact (Eqs.no_ok this).elim
  | some r =>
   obtain ⟨ra,rq,rob,rtr⟩:=r
   cases hc:(res.of f.q&&Nat.beq rob.length f.ob.length&&Nat.beq f.ev.length 0) with
   | false=>have:=h idE; unfold fin1 at this; rw [hx] at this; dsimp only at this; rw [hc] at this; exact (Eqs.no_ok this).elim
   | true =>
    have h3:=hc
    simp only [Bool.and_eq_true,Nat.beq_eq] at hc
    refine ⟨_,rfl,hc.1.1,hc.1.2,fun β=>?_⟩
    have:=h β
    unfold fin1 at this
    rw [hx] at this
    dsimp only at this
    rw [h3] at this
    exact this
 obtain ⟨r,f1,f2,f3,f4⟩:=fin
 refine ⟨fun β x hx=>eqsOf_ok (fun p hp=>f4 β p (List.mem_append.2 (.inr (List.mem_append.2 (.inr hp))))) x hx,?_⟩
 intro B w0 β a W g hq sl hm0
 obtain ⟨h5,_,_,tr,h8,h9⟩:=run1_ok _ _ _ _ _ f1 (fun k hk=>(hq k).1 hk)
 obtain ⟨k1,obj',k2,k3,k4⟩:=h9 _ _ _ _ _ _ g (fun k hk=>⟨hk,rfl⟩) (fun k a b=>by omega) hm0
 have h6:=f4 β
 rw [h8,List.append_nil,List.reverse_reverse] at h6
 have h7:Eqs.ok (chk P β (results fn (tmpsS β f.sl n)) tr (fun u=>[(.v u,.v (res.den β))])):=fun p hp=>h6 p (List.mem_append.2 (.inl hp))
 obtain ⟨v,hv,hv2⟩:=chk_run _ _ _ h7 k1
 obtain ⟨e1,_⟩:=Eqs.cons_ok hv2
 injection e1 with e1
 subst e1
 have hend:trEnd β W tr=W:=by
  obtain ⟨tr2,x1,x2⟩:=run1_still _ _ _ _ _ f1 (fun k hk=>(hq k).1 hk) f3
  rw [h8,List.append_nil,List.append_nil] at x1
  rw [List.reverse_inj.1 x1]
  exact x2 β W
 rw [hend] at hv
 rw [tmps_eq sl]
 exact hv
section
variable {P:Program} {fn:Func} {m0 n:Nat} {Ns:List (Nat × Nat)} {m:Nat} {res:SV} {need:List (Nat × Ob)} {ps:Array Tmp} {x y:Code} {ks:List Kf} {sl0:List (Nat × SV)} (hm:P.follows .mixedOrders=true)
include hm
theorem range_st:∀ (vs:List (List SV)) (f:Cf P),(∀ β,Eqs.ok (rangeE P fn m0 n Ns m res need ps x y ks sl0 vs f β))→f.full→f.sl=sl0 →
  f.good∧∀ k fk,stS P m0 n Ns m ps x y sl0 vs f k=some fk→(fk.full∧fk.sl=sl0∧fk.ob.all obClB=true∧∀ β:Env,Eqs.ok (needEqs fk.q fk.ob need)) ∧
   (k<vs.length→∃ b f',roundS P m0 n Ns m ps x y sl0 (vs.getD k []) fk=some (b,f')∧f'.good∧(b=false→stS P m0 n Ns m ps x y sl0 vs f (k+1)=some f')∧(b=true→f'.ob.all obClB=true∧∀ β,Eqs.ok (fin1 P fn m0 n res [] f' β))) ∧
   (k=vs.length→∃ b fB,runI P m0 n Ns m none ks fk=some (.ended b fB)∧fB.ob.all obClB=true∧∀ β,Eqs.ok (fin1 P fn m0 n res [] fB β))
 | [],f,h,hf,hsl=>by
  have h0:∀ β,_:=fun β=>h β
  have hcl:=bif_ok (Eqs.left (h0 idE))
  have hnd:∀ β:Env,Eqs.ok (needEqs f.q f.ob need):=fun β=>Eqs.left (Eqs.right (h0 β))
  cases hr:runI P m0 n Ns m none ks f with
  | none=>have:=Eqs.right (Eqs.right (h0 idE)); rw [hr] at this; exact (Eqs.no_ok this).elim
  | some s =>
   have h1:∀ β,_:=fun β=>Eqs.right (Eqs.right (h0 β))
   rw [hr] at h1
   cases s with
   | range g ps2 x2 y2 ks2 f2=>exact (Eqs.no_ok (h1 idE)).elim
   | ended b fB =>
    have hclB:=bif_ok (Eqs.left (h1 idE))
    have hfin:∀ β,Eqs.ok (fin1 P fn m0 n res [] fB β):=fun β=>Eqs.right (h1 β)
    have hgB:=(fin_val hfin).1
    obtain ⟨i1,i2,i3⟩:=runI_ok (l:=none) (nn:=0) hm _ _ _ _ _ hr hf
    refine ⟨fun β z hz=>hgB β z (i1 z hz),fun k fk hk=>?_⟩
    cases k with
    | succ k=>cases hk
    | zero =>
     obtain rfl:=Option.some.inj hk
     exact ⟨⟨hf,hsl,hcl,hnd⟩,fun h=>by simp at h,fun _=>⟨b,fB,hr,hclB,hfin⟩⟩
 | v::r,f,h,hf,hsl=>by
  have h0:∀ β,_:=fun β=>h β
  have hcl:=bif_ok (Eqs.left (h0 idE))
  have hnd:∀ β:Env,Eqs.ok (needEqs f.q f.ob need):=fun β=>Eqs.left (Eqs.right (h0 β))
  have h1:∀ β,_:=fun β=>Eqs.right (Eqs.right (h0 β))
  cases hr:roundS P m0 n Ns m ps x y sl0 v f with
  | none=>rw [hr] at h1; exact (Eqs.no_ok (h1 idE)).elim
  | some s =>
   obtain ⟨b,f'⟩:=s
   rw [hr] at h1
   obtain ⟨i1,i2,i3,_⟩:=roundS_ok (nn:=0) (l:=0) hm hr hf hsl
   cases b with
   | true =>
    have hcl':=bif_ok (Eqs.left (h1 idE))
    have hfin:∀ β,Eqs.ok (fin1 P fn m0 n res [] f' β):=fun β=>Eqs.right (h1 β)
    have hg':=(fin_val hfin).1
    refine ⟨fun β z hz=>hg' β z (i1 z hz),fun k fk hk=>?_⟩
    cases k with
    | succ k=>unfold stS at hk; rw [hr] at hk; cases hk
    | zero =>
     obtain rfl:f=fk:=by unfold stS at hk; exact Option.some.inj hk
     exact ⟨⟨hf,hsl,hcl,hnd⟩,fun _=>⟨true,f',hr,hg',(fun h=>by cases h),fun _=>⟨hcl',hfin⟩⟩,fun h=>by simp at h⟩
   | false =>
    obtain ⟨hg',hs⟩:=range_st r f' h1 i2 i3
    refine ⟨fun β z hz=>hg' β z (i1 z hz),fun k fk hk=>?_⟩
    cases k with
    | zero =>
     obtain rfl:f=fk:=by unfold stS at hk; exact Option.some.inj hk
     refine ⟨⟨hf,hsl,hcl,hnd⟩,fun _=>⟨false,f',hr,hg',fun _=>?_,fun h=>by cases h⟩,fun h=>by simp at h⟩
     show (match roundS P m0 n Ns m ps x y sl0 v f with | some (false,f')=>stS P m0 n Ns m ps x y sl0 r f' 0 | _=>none)=_
     rw [hr]
     cases r<;>rfl
    | succ k =>
     have hk2:stS P m0 n Ns m ps x y sl0 r f' k=some fk:=by
      have:(match roundS P m0 n Ns m ps x y sl0 v f with | some (false,f')=>stS P m0 n Ns m ps x y sl0 r f' k | _=>none)=some fk:=hk
      rw [hr] at this
      exact this
     obtain ⟨a1,a2,a3⟩:=hs k fk hk2
     refine ⟨a1,fun hlt=>?_,fun he=>a3 (by simpa using he)⟩
     obtain ⟨b,g,c1,c2,c3,c4⟩:=a2 (by simpa using hlt)
     refine ⟨b,g,by simpa using c1,c2,fun hb=>?_,c4⟩
     show (match roundS P m0 n Ns m ps x y sl0 v f with | some (false,f')=>stS P m0 n Ns m ps x y sl0 r f' (k+1) | _=>none)=_
     rw [hr]
     exact c3 hb
end
theorem leave_ok {P:Program} {fn:Func} {m0 n nn:Nat} {res:SV} {f f0:Cf P} {w w1 W:World} {β0 β:Env} {a:Act} {D:Nat} (g1:Good (bd0 w.heap.size m0) m0 w f0.q (fun k=>f0.ob[k]?) β0 w1) (hcl:f.ob.all obClB=true) (hfin:∀ β,Eqs.ok (fin1 P fn m0 n res [] f β))
  (g:Good (bdR f0.ob.length w1 m0 f0.q (fun k=>f0.ob[k]?) β0 []) m0 w1 f.q (fun k=>f.ob[k]?) β W) (hq:∀ k,f.q k=true↔k<f.ob.length) (sl:SlOk β a f.sl n) (hm0:m0≤f.ob.length) (hβ:∀ i,i<m0→β i=β0 i)
  (hd:a.defers=[{ target:=.collected D,args:=#[] }]) (hD:w1.heap.size≤D) (hK:W.heap[D]?=some (.deferred (some []))) {R:Ending→World→Prop} (hR:∀ w',Below w.heap.size w w'→R (.returned (res.den β)) w') :
  LeavesInM Fence.wide nn P fn a.tmps R a.defers .returning W:=by
 rw [hd]
 refine ⟨by simp,.inl ⟨_,_,rfl,run_takeDeferred hK,?_⟩⟩
 have g3:=g.grown (all_cl hcl) (grownBy_putObj' W D (.deferred none)) fun r e=>by cases e; exact ⟨hD,_,hK,rfl⟩
 have hv:=(fin_val hfin).2 g3 hq sl hm0
 exact ⟨_,hv,hR _ (Good.back g1 g3 hβ).bel.below⟩
theorem sx_range {P:Program} {f:FuncId} {fn:Func} (args:List SV) (obs:List Ob) (evs:List (Ev P)) (Ns:List (Nat × Nat)) (m:Nat) (res:SV) (need:List (Nat × Ob)) (vs:List (List SV)) (gf:Nat) (lb:Env→Array Value) (hf:P.funcs[f]?=some fn) (hm:P.follows .mixedOrders=true)
  (eg:∀ args w,(callFunc gf args).run P w=.ok (.enter gf args) w)
  (hiter:∀ (β:Env) (nn l:Nat) (J:Nat→World→Prop) (Jx:World→Prop) (W:World),(∀ k W,J k W→holdsAll β W need) →
   (∀ k W1,J k W1→k<vs.length→YieldAt Fence.wide (nn-1) P l ((vs.getD k []).map (SV.den β)).toArray W1 fun e W'=>(e=.returned (.bool true)∧J (k+1) W')∨(e=.returned (.bool false)∧Jx W'))→J 0 W →
   CallsIn Fence.wide nn P gf (#[.func (.yield l) #[] #[]]++lb β) W fun e W'=>(∃ v,e=.returned v)∧(J vs.length W'∨Jx W'))
  (hok:∀ β,Eqs.ok (allX P fn args obs evs Ns m res need vs gf lb β))
  (hargs:args.all (SV.of fun k=>Nat.blt k obs.length)=true) (hobs:obs.all (fun x=>x.of (fun k=>Nat.blt k obs.length)&&x.own)=true) (hres:∀ β β',res.den β=res.den β') (β:Env) (w:World) (hh:∀ (k:Nat) (o:Ob),obs[k]?=some o→o.holds β w (β k)) :
  Calls P f (args.map (SV.den β)).toArray w fun e w'=>e=.returned (res.den β)∧Below w.heap.size w w':=by
 have hnal:∀ (k r:Nat) (D:Thing),obs[k]?≠some (.al r D):=fun k r D ho=>by
  have:=List.all_eq_true.1 hobs _ (List.mem_of_getElem? ho)
  simp [Ob.own] at this
 have huq:UniqAl obs:=fun k j i D _ h1 _=>absurd h1 (hnal k i D)
 have hlt:∀ k,k<obs.length→∀ c,(β k).F c→c<w.heap.size:=fun k hk c hc=>by
  have h:=hh k _ (List.getElem?_eq_getElem hk)
  cases hx:obs[k] with
  | box cs t=>rw [hx] at h; rw [(h.1.1 c).1 hc]; exact heap_lt h.2
  | th D=>rw [hx] at h; exact D.st.lt _ _ h c hc
  | al r D=>rw [hx] at h; exact D.st.lt _ _ h c hc
  | pl n=>rw [hx] at h; rw [(h.1.1 c).1 hc]; exact h.2.lt
  | row cs t n sz=>rw [hx] at h; rw [(h.1.1 c).1 hc]; exact heap_lt h.2.choose_spec.1
  | ow D t=>rw [hx] at h; exact D.st.lt _ _ h.2 c hc
  | dead =>
   have:=List.all_eq_true.1 hobs _ (List.mem_of_getElem? (List.getElem?_eq_getElem hk))
   rw [hx] at this
   simp [Ob.own] at this
 cases hb:fn.body with
 | none=>have:=hok β; unfold allX at this; rw [hb] at this; exact (Eqs.no_ok this).elim
 | some c =>
  obtain ⟨n,hn⟩:∃ n,n=sizeS fn args:=⟨_,rfl⟩
  unfold allX at hok
  rw [hb] at hok
  dsimp only at hok
  rw [← hn] at hok
  cases hr:runI P obs.length n Ns m (some c) [] ⟨startS args 0,fun k=>Nat.blt k obs.length,obs,evs,[]⟩ with
  | none=>have:=hok β; rw [hr] at this; exact (Eqs.no_ok this).elim
  | some s =>
   rw [hr] at hok
   cases s with
   | ended b f2=>exact (Eqs.no_ok (hok β)).elim
   | range g ps x y ks fA =>
    dsimp only at hok
    have hneed:=bif_ok (Eqs.left (hok idE))
    have hgv:∀ β,evS β fA.sl g=.func (.func gf) #[] (lb β):=fun β=>by
     obtain ⟨e,_⟩:=Eqs.cons_ok (Eqs.right (hok β))
     injection e
    have hE:∀ β,Eqs.ok (rangeE P fn obs.length n Ns m res need ps x y ks fA.sl vs fA β):=fun β=>(Eqs.cons_ok (Eqs.right (hok β))).2
    obtain ⟨i1,i2,i3⟩:=runI_ok (l:=none) (nn:=10) hm _ _ _ _ _ hr ⟨fun k=>by dsimp only; rw [Nat.blt_eq],huq⟩
    obtain ⟨hgA,hS⟩:=range_st hm vs fA hE i2 rfl
    have hLQ:¬ LetsOut (bodyPostM Fence.wide 10 P fn fun e w'=>e=.returned (res.den β)∧Below w.heap.size w w'):=fun ⟨_,w',h⟩=>by
     have h:Ending.outgrown=.returned (res.den β)∧_:=h
     cases h.1
    refine (callsIn_wide (n:=10)).1 (callsIn_of_wp_marks hf hb trivial ?_)
    refine i3 hgA (B0:=bd0 w.heap.size obs.length) (w0:=w) (β:=β) ⟨⟨Keep.refl _ _,Nat.le_refl _,fun k o hk ho=>⟨hh k o ho,(Bool.and_eq_true _ _▸List.all_eq_true.1 hobs o (List.mem_of_getElem? ho)).1⟩,fun k hk=>hlt k (by simpa [Nat.blt_eq] using hk),fun k j hk _ _ hm=>?_,fun k _ hk hm=>?_,fun k hk hm=>?_,fun i hi=>by rw [Nat.blt_eq]; exact hi,fun k r D _ ho=>?_,fun k r D _ ho=>absurd ho (hnal k r D),fun k i _ hi _ hm=>by rw [Nat.blt_eq] at hi; omega⟩,fun k=>by dsimp only; rw [Nat.blt_eq],⟨?_,fun t=>?_⟩,fun t=>?_,⟨Nat.le_refl _,Nat.le_refl _⟩,rfl,huq⟩ _ hLQ fun β1 a1 w1 e1 s1=>?_
    · rw [Nat.blt_eq] at hk; omega
    · rw [Nat.blt_eq] at hk; omega
    · rw [Nat.blt_eq] at hk; omega
    · exact absurd ho (hnal k r D)
    · rw [hn]; simp [sizeS]
    · rw [look_start,if_pos (Nat.zero_le _),Nat.sub_zero]
      simp only [Array.getD_eq_getD_getElem?,Array.getElem?_append,List.size_toArray,List.length_map,List.getElem?_toArray,List.getElem?_map]
      split
      · rename_i hlt2
        rw [List.getElem?_eq_getElem hlt2]
        rfl
      · rename_i hge
        rw [List.getElem?_eq_none (by omega)]
        simp [Array.getElem?_replicate]
        split<;>rfl
    · dsimp only
      rw [look_start,if_pos (Nat.zero_le _),Nat.sub_zero]
      cases hx:args[t]? with
      | none=>rfl
      | some x=>exact List.all_eq_true.1 hargs x (List.mem_of_getElem? hx)
    ·
     have hdf:a1.defers=[]:=s1.defers
     obtain ⟨df0,hdf0⟩:∃ df0:Act,df0=a1:=⟨_,rfl⟩
     have s2:=s1.restart [] a1 rfl hdf
     have hm0L:obs.length≤fA.ob.length:=s1.m0.1
     show (Code.rangeFunc g ps x y).wpIn Fence.wide 10 P (postI none 10 P _ ks) a1 w1
     refine rf_law (n:=10) (gf:=gf) (lb:=lb β1) (by rw [s1.sl.eval]; exact hgv β1) eg vs.length (fun k=>((vs.getD k []).map (SV.den β1)).toArray)
      (fun k W=>∃ fk,stS P obs.length n Ns m ps x y fA.sl vs fA k=some fk∧∃ βk,(∀ i,i<fA.ob.length→βk i=β1 i)∧Sync P obs.length n (bdR fA.ob.length w1 obs.length fA.q (fun k=>fA.ob[k]?) β1 []) w1 fk βk a1 W)
      ?_ (fun W=>∃ f',(f'.ob.all obClB=true∧∀ β,Eqs.ok (fin1 P fn obs.length n res [] f' β))∧∃ βk,(∀ i,i<fA.ob.length→βk i=β1 i)∧Sync P obs.length n (bdR fA.ob.length w1 obs.length fA.q (fun k=>fA.ob[k]?) β1 []) w1 f' βk a1 W)
      ?_ ?_ ⟨fA,by cases vs<;>rfl,β1,fun _ _=>rfl,s2⟩ ?_ ?_ ?_ ?_
     · rintro k W ⟨fk,h1,βk,h2,s⟩ hk
       obtain ⟨⟨c1,c2,c3,c4⟩,c5,_⟩:=hS k fk h1
       obtain ⟨b,f',d1,_⟩:=c5 hk
       obtain ⟨_,_,_,d2,_⟩:=roundS_ok (nn:=0) (l:=0) hm d1 c1 c2
       simpa using d2
     · rintro k W W' row ⟨fk,h1,βk,h2,s⟩ hgr hrow
       obtain ⟨⟨c1,c2,c3,c4⟩,_⟩:=hS k fk h1
       exact ⟨fk,h1,βk,h2,⟨s.good.grown (all_cl c3) hgr hrow,s.q,s.sl,s.of,s.m0,s.defers,s.uq⟩⟩
     · rintro W W' row ⟨f',h1,βk,h2,s⟩ hgr hrow
       exact ⟨f',h1,βk,h2,⟨s.good.grown (all_cl h1.1) hgr hrow,s.q,s.sl,s.of,s.m0,s.defers,s.uq⟩⟩
     · intro l J Jx W hJ hY h0
       refine hiter β1 9 l J Jx W (fun k W hj p hp=>?_) hY h0
       obtain ⟨fk,h1,βk,h2,s⟩:=hJ k W hj
       obtain ⟨⟨c1,c2,c3,c4⟩,_⟩:=hS k fk h1
       have h3:=needs_hold s.good (fun k hk=>⟨hk,rfl⟩) need (c4 βk) p hp
       have h4:=List.all_eq_true.1 hneed p hp
       rw [Bool.and_eq_true,Nat.blt_eq] at h4
       rw [← h2 p.1 h4.1]
       exact Ob.holds_congr (q:=fun k=>Nat.blt k fA.ob.length) (fun i hi=>h2 i (by rw [Nat.blt_eq] at hi; exact hi)) p.2 h4.2 h3
     · rintro l k W hl hlo ⟨fk,h1,βk,h2,s⟩ hk
       obtain ⟨⟨c1,c2,c3,c4⟩,c5,_⟩:=hS k fk h1
       obtain ⟨b,f',d1,d2,d3,d4⟩:=c5 hk
       obtain ⟨_,_,_,_,d6,d5⟩:=roundS_ok (nn:=8) (l:=l) hm d1 c1 c2
       have hLk:fA.ob.length≤fk.ob.length:=s.m0.2
       have hvv:((vs.getD k []).map (SV.den β1))=((vs.getD k []).map (SV.den βk)):=List.map_congr_left fun z hz=>SV.den_congr (q:=fun _=>false) (fun k hk=>by cases hk) z (List.all_eq_true.1 d6 z hz)
       rw [hvv]
       exact d5 d2 c3 s rfl hLk w1.heap.size ⟨hl,hl⟩ hlo _ _ fun β' W' e s'=>⟨fun hb=>⟨f',d3 hb,β',fun i hi=>(e i (Nat.lt_of_lt_of_le hi hLk)).trans (h2 i hi),s'⟩,fun hb=>⟨f',d4 hb,β',fun i hi=>(e i (Nat.lt_of_lt_of_le hi hLk)).trans (h2 i hi),s'⟩⟩
     · rintro D W hD ⟨fN,h1,βN,h2,s⟩ hK
       obtain ⟨⟨c1,c2,c3,c4⟩,_,c6⟩:=hS _ fN h1
       obtain ⟨b,fB,d1,d2,d3⟩:=c6 rfl
       obtain ⟨j1,j2,j3⟩:=runI_ok (l:=none) (nn:=10) hm _ _ _ _ _ d1 c1
       have s3:=s.restart ({ target:=.collected D,args:=#[] }::a1.defers) { a1 with defers:={ target:=.collected D,args:=#[] }::a1.defers } rfl rfl
       refine j3 (fin_val d3).1 s3 _ hLQ fun β2 a2 W2 e2 s4=>?_
       have gB:=Good.back s.good s4.good fun i hi=>e2 i (Nat.lt_of_lt_of_le hi (Nat.le_trans hm0L s.m0.2))
       have hK2:=(keeps_from (B:=0) s.good (all_cl c3) s4.good.bel).same D _ (Nat.zero_le _) hK rfl
       have hdd:a2.defers=[{ target:=.collected D,args:=#[] }]:=by
        have:a2.defers={ target:=.collected D,args:=#[] }::a1.defers:=s4.defers
        rw [this,hdf]
       have hLL:=leave_ok (nn:=10) (R:=fun e w'=>e=.returned (res.den β)∧Below w.heap.size w w') s1.good d2 d3 gB s4.q s4.sl s4.m0.1 (fun i hi=>(e2 i (Nat.lt_of_lt_of_le hi (Nat.le_trans hm0L s.m0.2))).trans (h2 i (Nat.lt_of_lt_of_le hi hm0L))) hdd hD hK2 fun w' hb=>⟨by rw [hres β2 β],hb⟩
       cases b<;>exact hLL
     · rintro D W hD ⟨f',h1,βk,h2,s⟩ hK
       refine postI_ret ?_ ks
       have hdd:({ a1 with defers:={ target:=.collected D,args:=#[] }::a1.defers }:Act).defers=[{ target:=.collected D,args:=#[] }]:=by
        show ({ target:=.collected D,args:=#[] }:Deferred)::a1.defers=_
        rw [hdf]
       exact leave_ok (nn:=10) (R:=fun e w'=>e=.returned (res.den β)∧Below w.heap.size w w') s1.good h1.1 h1.2 s.good s.q (a:={ a1 with defers:={ target:=.collected D,args:=#[] }::a1.defers }) ⟨s.sl.1,s.sl.2⟩ s.m0.1 (fun i hi=>h2 i (Nat.lt_of_lt_of_le hi hm0L)) hdd hD hK fun w' hb=>⟨by rw [hres βk β],hb⟩
end Go.Proofs.YtdiemgedlfnlmaaGreat.Y
end
section
namespace Go.Proofs.YtdiemgedlfnlmaaGreat
open Go Go.RowKit Go.Shelf
attribute [local go_sem] Oper.semAt_some
def BwH (Bs b len cap:Nat) (V:Nat→List Value) (W:World):Prop :=
 W.cell? ⟨Bs,0,none⟩=some (.slice (some ⟨b,0,none⟩) len cap)∧∀ i,i<len→W.rangeAt b (i*33) (V i)
theorem bw_load {n:Nat} {P:Program} {T:TypeId} {ops:Array Oper} {rest:List Oper} {o:Oper} {a:Act} {w:World} {Q:Exit→Act→World→Prop} (hgd:o.guard=none) (x:Operand) (ho:o.op=.load T x) (p v:Value)
  (hx:a.eval x=p) (hl:(Instr.loadAt T p).run P w=.ok v w) (h:wpListIn Fence.wide n P ops Q rest (a.put o.dst v) w):wpListIn Fence.wide n P ops Q (o::rest) a w:=by
 refine wpListIn_plain hgd fun K hK=>⟨fun _ _=>trivial,?_⟩
 rw [show Fence.wide.round=none from rfl,Oper.semAt_none]
 unfold execOp
 simp only [ho,hx,Sem.run_bind,hl,Result.andThen_ok]
 exact hK _ _ h
set_option maxRecDepth 100000 in
set_option maxHeartbeats 4000000 in
theorem bwd1_in (n l Bs b len cap:Nat) (V:Nat→List Value) (hV:∀ i,(V i).length=33) (hreach:len≤4096) (J:Nat→World→Prop) (Jx:World→Prop)
  (hJ:∀ k W,J k W→BwH Bs b len cap V W)
  (hY:∀ k W,J k W→k<len→YieldAt Fence.wide (n-1) Tryz.prog l #[.int .i64 ((len:Int)-1-k),.agg (V (len-1-k)).toArray] W fun e W'=>(e=.returned (.bool true)∧J (k+1) W')∨(e=.returned (.bool false)∧Jx W'))
  (W:World) (h0:J 0 W) :
  CallsIn Fence.wide n Tryz.prog 315 #[.func (.yield l) #[] #[],.pointer (some ⟨Bs,0,none⟩)] W fun e W'=>(∃ v,e=.returned v)∧(J len W'∨Jx W'):=by
 have hB0:=(hJ 0 W h0).1
 have hn:Fence.wide.depth.isSome=true→1≤n:=fun e=>by simp [Fence.wide] at e
 refine callsIn_of_wp Tryz.func315 rfl trivial ?_ rfl
 simp only [Tryz.ntmps315,List.size_toArray,List.length_cons,List.length_nil,Nat.reduceAdd,Nat.reduceSub,Array.replicate_succ,Array.replicate_zero,List.push_toArray,List.append_toArray,List.nil_append,List.cons_append]
 gi_wp2
 gi_loopw [3] (fun i wr=>∃ k:Nat,k≤len∧i=.int .i64 ((len:Int)-1-k)∧J k wr)
  (fun i _=>(intOf i+1).toNat)
 case atStart=>exact ⟨0,Nat.zero_le _,by simp,h0⟩
 case round =>
  obtain ⟨k,hk,rfl,hJs⟩:=hrel
  obtain ⟨hB1,hR1⟩:=hJ k wr hJs
  by_cases hlt:k<len
  · obtain ⟨i,hi⟩:∃ i,i=len-1-k:=⟨_,rfl⟩
    have hi2:i<len:=by omega
    have hie:(len:Int)-1-(k:Int)=(i:Int):=by omega
    obtain ⟨fn,tmps,assign,body,hy,hR⟩:=hY k wr hJs hlt
    rw [hie] at hy ⊢
    rw [← hi] at hy
    clear hi
    have hl:=run_loadAt_mid (P:=Tryz.prog) wr b (i*33) 74 (V i) _ (hR1 i hi2) Tryz.underlying74 (by kernel_rfl) (by rw [hV]; kernel_rfl)
    gi_wp2_with (refine bw_load (T:=74) rfl _ rfl _ _ rfl hl ?_)
    refine ⟨hn,hR.mono ?_⟩
    rintro e W3 (⟨rfl,hJ3⟩ | ⟨rfl,hJx3⟩)
    · gi_wp2
      go_roundw
      case rel=>exact ⟨k+1,by omega,by congr 1; simp<;>omega,hJ3⟩
      case measure=>simp [intOf]<;>omega
    · gi_wp2
      refine bodyPost_ret (results_none rfl _ _ _) rfl ?_
      exact ⟨⟨_,rfl⟩,.inr hJx3⟩
  · obtain rfl:k=len:=by omega
    gi_wp2
    go_end0
    exact ⟨⟨_,rfl⟩,.inl hJs⟩
end Go.Proofs.YtdiemgedlfnlmaaGreat
end
section
namespace Go.Proofs.YtdiemgedlfnlmaaGreat
open Go Go.RowKit Go.Shelf
set_option maxRecDepth 100000
set_option maxHeartbeats 1000000 in
theorem bwd_any (a:Option Addr) (len cap:Nat) (w:World) :
  Calls Tryz.prog 227 #[.slice a len cap] w fun e w'=>e=.returned (.func (.func 315) #[] #[.pointer (some ⟨w.heap.size,0,none⟩)])∧w'=w.alloc (.cells #[.slice a len cap] 110):=by
 refine (callsIn_wide (n:=1)).1 ?_
 refine callsIn_of_wp Tryz.func227 rfl trivial ?_ rfl
 simp only [Tryz.ntmps227,List.size_toArray,List.length_cons,List.length_nil,Nat.reduceAdd,Nat.reduceSub,Array.replicate_succ,Array.replicate_zero,List.push_toArray,List.append_toArray,List.nil_append,List.cons_append]
 gi_wp2
 go_ret
 exact ⟨rfl,rfl⟩
end Go.Proofs.YtdiemgedlfnlmaaGreat
namespace Go.Proofs.YtdiemgedlfnlmaaGreat.Y
open Go Go.RowKit
set_option maxRecDepth 100000
abbrev mcI (k:Int):SC:=.c (.b (.v (.int .i64 k)))
abbrev MOB:TypeId:=74
abbrev BWF:FuncId:=315
def bwPl (b:Nat):Pl:=⟨b,fun i=>some ⟨b,i,none⟩,fun _=>0,fun c=>c=b,fun _=>undef⟩
theorem bwd_own {i n:Nat} (h:Nat.blt i n=true) (β:Env) (w:World):Calls Tryz.prog 227 #[.slice (some ⟨(β i).b,0,none⟩) 2 2] w fun e w'=>∃ (g:Pl) (xs:List Pl),(w.heap.size≤g.b∧fresh β w [] xs∧∀ x∈xs,¬ x.F g.b)∧e=.returned ((SV.one (.c (.f (.func BWF) [] [.p n 0]))).den (extE β n (g::xs)))∧(Ob.box [.b (.s i 0 2 2)] 110).holds (extE β n (g::xs)) w' g∧newHold w' [] xs∧Below w.heap.size w w':=by
 rw [Nat.blt_eq] at h
 refine (bwd_any _ 2 2 w).mono fun e w' ⟨he,hw⟩=>?_
 subst hw
 have e1:extE β n [bwPl w.heap.size] n=bwPl w.heap.size:=by
  have:=extE_in (β:=β) (n:=n) (xs:=[bwPl w.heap.size]) (i:=0) rfl
  simpa using this
 have e2:extE β n [bwPl w.heap.size] i=β i:=extE_out (by simp; omega)
 refine ⟨bwPl w.heap.size,[],⟨Nat.le_refl _,(fun x hx=>by cases hx),fun x hx=>by cases hx⟩,?_,⟨⟨fun c=>Iff.rfl,fun i=>rfl⟩,?_⟩,trivial,?_⟩
 · rw [he]
   show _=Ending.returned (Value.func (.func BWF) #[] #[.pointer (some ⟨(extE β n [bwPl w.heap.size] n).b,0,none⟩)])
   rw [e1]
   rfl
 · show (w.alloc _).heap[w.heap.size]?=some (.cells #[.slice (some ⟨(extE β n [bwPl w.heap.size] i).b,0,none⟩) 2 2] _ (0,0))
   rw [e2,alloc_heap]
   simp
 · exact ((Below.refl _ w).alloc (Nat.le_refl _) _)
def evBwd:Ev Tryz.prog:=.dyn (fun o _ _=>isCallB o) fun _ xs ob=>lit (bkOf xs) fun i=>lit ob.length fun n=>match h:Nat.blt i n with
 | true=>.own 227 Tryz.call227 (fun β=>#[.slice (some ⟨(β i).b,0,none⟩) 2 2]) [] n (.box [.b (.s i 0 2 2)] 110) (.one (.c (.f (.func BWF) [] [.p n 0]))) [] (fun β w _=>bwd_own h β w)
 | false=>.cut
def mc2L (m q:MQ):List Lf:=mCl m++mCl q
abbrev mcNeed (m q:MQ) (K:Nat):List (Nat × Ob):=[(0,.box (mc2L m q) MOB),(K,.box [.b (.s 0 0 2 2)] 110)]
abbrev mcVs (m q:MQ):List (List SV):=[[.one (.c (.b (.v (.int .i64 1)))),.one (.a (mCl q))],[.one (.c (.b (.v (.int .i64 0)))),.one (.a (mCl m))]]
theorem mCl_len (m:MQ):(mCl m).length=33:=rfl
theorem mc_iter (m q:MQ) (K:Nat) (β:Env) (nn l:Nat) (J:Nat→World→Prop) (Jx:World→Prop) (W:World) (hJ:∀ k W,J k W→holdsAll β W (mcNeed m q K))
  (hY:∀ k W1,J k W1→k<(mcVs m q).length→YieldAt Fence.wide (nn-1) Tryz.prog l (((mcVs m q).getD k []).map (SV.den β)).toArray W1 fun e W'=>(e=.returned (.bool true)∧J (k+1) W')∨(e=.returned (.bool false)∧Jx W')) (h0:J 0 W) :
  CallsIn Fence.wide nn Tryz.prog BWF (#[.func (.yield l) #[] #[]]++#[.pointer (some ⟨(β K).b,0,none⟩)]) W fun e W'=>(∃ v,e=.returned v)∧(J (mcVs m q).length W'∨Jx W'):=by
 refine bwd1_in nn l (β K).b (β 0).b 2 2 (fun i=>if i=0 then (mCl m).map (Lf.den β) else (mCl q).map (Lf.den β)) (fun i=>?_) (by decide) J Jx (fun k W hj=>?_) (fun k W hj hk=>?_) W h0
 · split<;>(rw [List.length_map,mCl_len])
 · have h:=hJ k W hj
   have h1:(Ob.box (mc2L m q) MOB).holds β W (β 0):=h (0,_) (by simp)
   have h2:(Ob.box [.b (.s 0 0 2 2)] 110).holds β W (β K):=h (K,_) (by simp)
   refine ⟨?_,fun i hi j v hv=>?_⟩
   · simp only [World.cell?,h2.2]
     rfl
   · have hc:((mc2L m q).map (Lf.den β))[i*33+j]?=some v:=by
      unfold mc2L
      rw [List.map_append]
      match i,hi with
      | 0,_ =>
       have hv:((mCl m).map (Lf.den β))[j]?=some v:=hv
       rw [Nat.zero_mul,Nat.zero_add,List.getElem?_append_left (List.getElem?_eq_some_iff.1 hv).1]
       exact hv
      | 1,_ =>
       have hv:((mCl q).map (Lf.den β))[j]?=some v:=hv
       rw [List.getElem?_append_right (by rw [List.length_map,mCl_len]; omega),List.length_map,mCl_len]
       rw [show 1*33+j-33=j by omega]
       exact hv
     simp only [World.cell?,h1.2]
     simpa using hc
 · match k,hk with
   | 0,_=>exact hY 0 W hj (Nat.zero_lt_succ _)
   | 1,_=>exact hY 1 W hj (Nat.lt_succ_self _)
def sMbChk {q:MQ} (h:MayQ q):Spec Tryz.prog :=
 Spec.auto Tryz.call58 [.one (.a (mCl q))] [] (.one (mcI 0)) [] [(sOpenYes h).e] [] 400 Tryz.func58 hmA (by kernel_rfl) (fun β=>by kernel_rfl)
def sMbChkNo {m:Mp} {t:Bool} (h:OpenNo m t):Spec Tryz.prog :=
 Spec.auto Tryz.call58 [.one (.a m.C)] [] (.one (mcI 2)) [] [(sOpenNo h).e] [] 400 Tryz.func58 hmA (by kernel_rfl) (fun β=>by kernel_rfl)
def sMcp1 {q:MQ} (h:MayQ q):Spec Tryz.prog :=
 Spec.auto Tryz.call226 [.one (.a (mCl q))] [] (svB false) [] [(sMbChk h).e] [] 400 Tryz.func226 hmA (by kernel_rfl) (fun β=>by kernel_rfl)
abbrev mcA:List SV:=[.one (.c (.b (.s 0 0 2 2)))]
abbrev mcFA:List SV:=[.one (.c (.b (.s 0 0 2 2))),(.one (.c (.f (.func 226) [] [])))]
section
variable {m q:MQ} (hm:MayQ m) (hq:MayQ q)
include hm hq
theorem mcIdx_ok (β:Env) (w:World) (hh:(Ob.box (mc2L m q) MOB).holds β w (β 0)) :
  Calls Tryz.prog 314 (mcFA.map (SV.den β)).toArray w fun e w'=>e=.returned (.int .i64 (-1))∧Below w.heap.size w w' :=
 bspec_ok [(sMcp1 hm).e,(sMcp1 hq).e] [] 800 Tryz.func314 hmA (fun β=>by kernel_rfl) (by kernel_rfl) (fun β=>rfl) β w hh
end
noncomputable def sMcIdx {m q:MQ} (hm:MayQ m) (hq:MayQ q):BSpec Tryz.prog :=
 ⟨314,Tryz.call314,mcFA,mc2L m q,MOB,.int .i64 (-1),mcIdx_ok hm hq,by kernel_rfl,fun _=>rfl⟩
theorem mcHas_ok {m q:MQ} (hm:MayQ m) (hq:MayQ q) (β:Env) (w:World) (hh:(Ob.box (mc2L m q) MOB).holds β w (β 0)) :
  Calls Tryz.prog 225 (mcFA.map (SV.den β)).toArray w fun e w'=>e=.returned (.bool false)∧Below w.heap.size w w' :=
 bspec_ok [(sMcIdx hm hq).e] [] 800 Tryz.func225 hmA (fun β=>by kernel_rfl) (by kernel_rfl) (fun β=>rfl) β w hh
noncomputable def sMcHas {m q:MQ} (hm:MayQ m) (hq:MayQ q):BSpec Tryz.prog :=
 ⟨225,Tryz.call225,mcFA,mc2L m q,MOB,.bool false,mcHas_ok hm hq,by kernel_rfl,fun _=>rfl⟩
theorem ma_fit {m:MQ} (h:FitM m):maC m=mCl m∧maK m=0:=by
 refine ⟨?_,(maC_yes h).2⟩
 unfold maC mCl
 simp only [gsC_yes h]
 rw [show selB (FitM m) m.t=m.t from if_pos h]
theorem mbeh_idr (m:MQ):mbeh m (mstill false)=m:=by
 obtain ⟨⟨a1,a2⟩,⟨b1,b2⟩,⟨c1,c2⟩,⟨d1,d2⟩,t⟩:=m
 cases t<;>(simp only [mbeh,mstill,mconj,cond_true,cond_false,gint10,gmul,gadd,gconj,g0]; congr 1<;>(congr 1<;>grind))
theorem mcmp_idr {m:MQ} (h:Nrm m):mcmp m (mstill false)=m:=by
 unfold mcmp
 rw [mbeh_idr,h.id]
theorem mcStill_sz:MSz KE (mstill false):=⟨(GSz.int (by decide) (by decide)).mono (by decide),g0_sz (by decide),g0_sz (by decide),(GSz.int (by decide) (by decide)).mono (by decide)⟩
theorem reg_still:Reg (mstill false):=Reg.id false
section
variable {m q:MQ} (hm:MayQ m) (hq:MayQ q)
abbrev mcX0 (q:MQ):MQ:=mcmp q (mstill false)
abbrev mcX1 (m q:MQ):MQ:=mcmp m (mcX0 q)
include hq in
theorem mcX0_eq:mcX0 q=q:=mcmp_idr hq.nrm
include hq in
theorem mcX0_sz:MSz 1024 (mcX0 q):=by rw [mcX0_eq hq]; exact fitM_sz hq.1
include hq in
theorem mcX0_reg:Reg (mcX0 q):=by rw [mcX0_eq hq]; exact hq.reg
include hm hq in
theorem mcX1_sz:MSz (dsz (bsz 1024 1024)) (mcX1 m q):=mcmp_sz (fitM_sz hm.1) (mcX0_sz hq) (hm.reg.beh (mcX0_reg hq))
noncomputable def mcT0:Spec Tryz.prog:=(sToldN ((mcX0_sz hq).mono (by decide)) (Nrm.cmp hq.reg reg_still)).conv (.tup [.a (lsX (mCl q)),mcI 0]) (by
 show SV.tup [.a (lsX (maC (mcX0 q))),.c (.b (.v (.int .i64 (maK (mcX0 q)))))]=_
 rw [mcX0_eq hq,(ma_fit hq.1).1,(ma_fit hq.1).2])
noncomputable def mcT1:Spec Tryz.prog:=sToldN ((mcX1_sz hm hq).mono (by decide)) (Nrm.cmp hm.reg (mcX0_reg hq))
noncomputable def mcT1Y (hF:FitM (mcX1 m q)):Spec Tryz.prog:=(mcT1 hm hq).conv (.tup [.a (lsX (mCl (mcX1 m q))),mcI 0]) (by
 show SV.tup [.a (lsX (maC (mcX1 m q))),.c (.b (.v (.int .i64 (maK (mcX1 m q)))))]=_
 rw [(ma_fit hF).1,(ma_fit hF).2])
noncomputable def mcT1N (hF:¬ FitM (mcX1 m q)):Spec Tryz.prog:=(mcT1 hm hq).conv (.tup [mob0,mcI 4]) (by
 show SV.tup [.a (lsX (maC (mcX1 m q))),.c (.b (.v (.int .i64 (maK (mcX1 m q)))))]=_
 rw [(maC_no hF).1,(maC_no hF).2]
 rfl)
noncomputable def mcE (last:List (Ev Tryz.prog)):List (Ev Tryz.prog) :=
 [(sMcHas hm hq).e,sStill.e,evBwd,(sOpenYes hq).e,(sBehR ((fitM_sz hq.1).mono (by decide)) mcStill_sz (hq.reg.beh reg_still)).e,(mcT0 hq).e,
  (sOpenYes hm).e,(sBehR ((fitM_sz hm.1).mono (by decide)) ((mcX0_sz hq).mono (by decide)) (hm.reg.beh (mcX0_reg hq))).e]++last
end
abbrev mcNs:List (Nat × Nat):=[]
abbrev mcRY (m q:MQ):SV:=.tup [.a (mCl (mcX1 m q)),mcI 0]
theorem mcY_ok {m q:MQ} (hm:MayQ m) (hq:MayQ q) (hF:FitM (mcX1 m q)) (β:Env) (w:World) (hh:(Ob.box (mc2L m q) MOB).holds β w (β 0)) :
  Calls Tryz.prog 87 (mcA.map (SV.den β)).toArray w fun e w'=>e=.returned ((mcRY m q).den β)∧Below w.heap.size w w' :=
 sx_range mcA [.box (mc2L m q) MOB] (mcE hm hq [(mcT1Y hm hq hF).e,(mcT1Y hm hq hF).e]) mcNs 2000 (mcRY m q) (mcNeed m q 12) (mcVs m q) BWF (fun β=>#[.pointer (some ⟨(β 12).b,0,none⟩)]) Tryz.func87 hmA Tryz.call315 (mc_iter m q 12)
  (fun β=>ok_of_maps (by kernel_rfl)) (by kernel_rfl) (by kernel_rfl) (fun _ _=>rfl) β w (fun k o ho=>by
   cases k with
   | zero=>simp only [List.getElem?_cons_zero] at ho; obtain rfl:=Option.some.inj ho; exact hh
   | succ k=>simp at ho)
abbrev mcRN:SV:=.tup [mob0,mcI 4]
theorem mcN_ok {m q:MQ} (hm:MayQ m) (hq:MayQ q) (hF:¬ FitM (mcX1 m q)) (β:Env) (w:World) (hh:(Ob.box (mc2L m q) MOB).holds β w (β 0)) :
  Calls Tryz.prog 87 (mcA.map (SV.den β)).toArray w fun e w'=>e=.returned (mcRN.den β)∧Below w.heap.size w w' :=
 sx_range mcA [.box (mc2L m q) MOB] (mcE hm hq [(mcT1N hm hq hF).e]) mcNs 2000 mcRN (mcNeed m q 12) (mcVs m q) BWF (fun β=>#[.pointer (some ⟨(β 12).b,0,none⟩)]) Tryz.func87 hmA Tryz.call315 (mc_iter m q 12)
  (fun β=>ok_of_maps (by kernel_rfl)) (by kernel_rfl) (by kernel_rfl) (fun _ _=>rfl) β w (fun k o ho=>by
   cases k with
   | zero=>simp only [List.getElem?_cons_zero] at ho; obtain rfl:=Option.some.inj ho; exact hh
   | succ k=>simp at ho)
noncomputable def sCompY {m q:MQ} (hm:MayQ m) (hq:MayQ q) (hF:FitM (mcmp m q)):BSpec Tryz.prog :=
 ⟨87,Tryz.call87,mcA,mc2L m q,MOB,(SV.tup [.a (mCl (mcmp m q)),mcI 0]).den idE,fun β w hh=>by
  have e:mcX1 m q=mcmp m q:=by unfold mcX1; rw [mcX0_eq hq]
  refine (mcY_ok hm hq (e▸hF) β w hh).mono fun e' w' ⟨he,hb⟩=>⟨?_,hb⟩
  rw [he]
  unfold mcRY
  rw [e]
  rfl,by kernel_rfl,fun β=>by kernel_rfl⟩
noncomputable def sCompN {m q:MQ} (hm:MayQ m) (hq:MayQ q) (hF:¬ FitM (mcmp m q)):BSpec Tryz.prog :=
 ⟨87,Tryz.call87,mcA,mc2L m q,MOB,(SV.tup [mob0,mcI 4]).den idE,fun β w hh=>by
  have e:mcX1 m q=mcmp m q:=by unfold mcX1; rw [mcX0_eq hq]
  refine (mcN_ok hm hq (e▸hF) β w hh).mono fun e' w' ⟨he,hb⟩=>⟨?_,hb⟩
  rw [he]
  rfl,by kernel_rfl,fun β=>by kernel_rfl⟩
end Go.Proofs.YtdiemgedlfnlmaaGreat.Y
end
section
namespace Go.Proofs.YtdiemgedlfnlmaaGreat.Y
open Go Go.RowKit
set_option maxRecDepth 100000
theorem long4_ok {x0 y0 x1 y1 x2 y2 x3 y3:R4} {rx0 ry0 rx1 ry1 rx2 ry2 rx3 ry3:Bool} (hx0:Lg1 x0 rx0) (hy0:Lg1 y0 ry0) (hx1:Lg1 x1 rx1) (hy1:Lg1 y1 ry1) (hx2:Lg1 x2 rx2) (hy2:Lg1 y2 ry2) (hx3:Lg1 x3 rx3) (hy3:Lg1 y3 ry3) (β:Env) (w:World) (hh:(Ob.box (rL x0++rL y0++rL x1++rL y1++rL x2++rL y2++rL x3++rL y3) 37).holds β w (β 0)) :
  Calls Tryz.prog 95 (([.one (.c (.b (.s 0 0 4 4)))]:List SV).map (SV.den β)).toArray w fun e w'=>e=.returned (.bool (rx0||(ry0||(rx1||(ry1||(rx2||(ry2||(rx3||ry3))))))))∧Below w.heap.size w w':=by
 cases rx0 with
 | true=>exact bspec_ok [(sLongF x0 hx0).e] [] 1600 Tryz.func95 hmA (fun β=>by kernel_rfl) (by kernel_rfl) (fun β=>rfl) β w hh
 | false =>
 cases ry0 with
 | true=>exact bspec_ok [(sLongF x0 hx0).e,(sLongF y0 hy0).e] [] 1600 Tryz.func95 hmA (fun β=>by kernel_rfl) (by kernel_rfl) (fun β=>rfl) β w hh
 | false =>
 cases rx1 with
 | true=>exact bspec_ok [(sLongF x0 hx0).e,(sLongF y0 hy0).e,(sLongF x1 hx1).e] [] 1600 Tryz.func95 hmA (fun β=>by kernel_rfl) (by kernel_rfl) (fun β=>rfl) β w hh
 | false =>
 cases ry1 with
 | true=>exact bspec_ok [(sLongF x0 hx0).e,(sLongF y0 hy0).e,(sLongF x1 hx1).e,(sLongF y1 hy1).e] [] 1600 Tryz.func95 hmA (fun β=>by kernel_rfl) (by kernel_rfl) (fun β=>rfl) β w hh
 | false =>
 cases rx2 with
 | true=>exact bspec_ok [(sLongF x0 hx0).e,(sLongF y0 hy0).e,(sLongF x1 hx1).e,(sLongF y1 hy1).e,(sLongF x2 hx2).e] [] 1600 Tryz.func95 hmA (fun β=>by kernel_rfl) (by kernel_rfl) (fun β=>rfl) β w hh
 | false =>
 cases ry2 with
 | true=>exact bspec_ok [(sLongF x0 hx0).e,(sLongF y0 hy0).e,(sLongF x1 hx1).e,(sLongF y1 hy1).e,(sLongF x2 hx2).e,(sLongF y2 hy2).e] [] 1600 Tryz.func95 hmA (fun β=>by kernel_rfl) (by kernel_rfl) (fun β=>rfl) β w hh
 | false =>
 cases rx3 with
 | true=>exact bspec_ok [(sLongF x0 hx0).e,(sLongF y0 hy0).e,(sLongF x1 hx1).e,(sLongF y1 hy1).e,(sLongF x2 hx2).e,(sLongF y2 hy2).e,(sLongF x3 hx3).e] [] 1600 Tryz.func95 hmA (fun β=>by kernel_rfl) (by kernel_rfl) (fun β=>rfl) β w hh
 | false =>
 cases ry3 with
 | true=>exact bspec_ok [(sLongF x0 hx0).e,(sLongF y0 hy0).e,(sLongF x1 hx1).e,(sLongF y1 hy1).e,(sLongF x2 hx2).e,(sLongF y2 hy2).e,(sLongF x3 hx3).e,(sLongF y3 hy3).e] [] 1600 Tryz.func95 hmA (fun β=>by kernel_rfl) (by kernel_rfl) (fun β=>rfl) β w hh
 | false =>
 exact bspec_ok [(sLongF x0 hx0).e,(sLongF y0 hy0).e,(sLongF x1 hx1).e,(sLongF y1 hy1).e,(sLongF x2 hx2).e,(sLongF y2 hy2).e,(sLongF x3 hx3).e,(sLongF y3 hy3).e] [] 1600 Tryz.func95 hmA (fun β=>by kernel_rfl) (by kernel_rfl) (fun β=>rfl) β w hh
def sLongG4 {x0 y0 x1 y1 x2 y2 x3 y3:R4} {rx0 ry0 rx1 ry1 rx2 ry2 rx3 ry3:Bool} (hx0:Lg1 x0 rx0) (hy0:Lg1 y0 ry0) (hx1:Lg1 x1 rx1) (hy1:Lg1 y1 ry1) (hx2:Lg1 x2 rx2) (hy2:Lg1 y2 ry2) (hx3:Lg1 x3 rx3) (hy3:Lg1 y3 ry3) {r:Bool} (h:(rx0||(ry0||(rx1||(ry1||(rx2||(ry2||(rx3||ry3)))))))=r):BSpec Tryz.prog :=
 ⟨95,Tryz.call95,[.one (.c (.b (.s 0 0 4 4)))],rL x0++rL y0++rL x1++rL y1++rL x2++rL y2++rL x3++rL y3,37,.bool r,fun β w hh=>by rw [← h]; exact long4_ok hx0 hy0 hx1 hy1 hx2 hy2 hx3 hy3 β w hh,by kernel_rfl,fun _=>rfl⟩
abbrev cbM (x0 y0 x1 y1 x2 y2 x3 y3:R4) (t:Bool):List Lf:=rL x0++rL y0++rL x1++rL y1++rL x2++rL y2++rL x3++rL y3++[.b (.v (.bool t))]
def CbFar (x0 y0 x1 y1 x2 y2 x3 y3:R4) (r:Bool):Prop:=∃ rx0 ry0 rx1 ry1 rx2 ry2 rx3 ry3:Bool,Lg1 x0 rx0∧Lg1 y0 ry0∧Lg1 x1 rx1∧Lg1 y1 ry1∧Lg1 x2 rx2∧Lg1 y2 ry2∧Lg1 x3 rx3∧Lg1 y3 ry3∧(rx0||(ry0||(rx1||(ry1||(rx2||(ry2||(rx3||ry3)))))))=r
theorem CbFar.all (x0 y0 x1 y1 x2 y2 x3 y3:R4):∃ r,CbFar x0 y0 x1 y1 x2 y2 x3 y3 r:=by
 obtain ⟨rx0,hx0⟩:=Lg1.all x0
 obtain ⟨ry0,hy0⟩:=Lg1.all y0
 obtain ⟨rx1,hx1⟩:=Lg1.all x1
 obtain ⟨ry1,hy1⟩:=Lg1.all y1
 obtain ⟨rx2,hx2⟩:=Lg1.all x2
 obtain ⟨ry2,hy2⟩:=Lg1.all y2
 obtain ⟨rx3,hx3⟩:=Lg1.all x3
 obtain ⟨ry3,hy3⟩:=Lg1.all y3
 exact ⟨_,rx0,ry0,rx1,ry1,rx2,ry2,rx3,ry3,hx0,hy0,hx1,hy1,hx2,hy2,hx3,hy3,rfl⟩
def sFar11 (x0 y0 x1 y1 x2 y2 x3 y3:R4) (t:Bool) {r:Bool} (h:CbFar x0 y0 x1 y1 x2 y2 x3 y3 r):Spec Tryz.prog :=
 ⟨113,Tryz.call113,[.one (.a (cbM x0 y0 x1 y1 x2 y2 x3 y3 t))],[],tB' r,[],fun β w hh=>by
  obtain ⟨rx0,ry0,rx1,ry1,rx2,ry2,rx3,ry3,hx0,hy0,hx1,hy1,hx2,hy2,hx3,hy3,hr⟩:=h
  exact spec_auto (evs:=[(sLongG4 hx0 hy0 hx1 hy1 hx2 hy2 hx3 hy3 hr).e]) (Ns:=[]) (m:=400) Tryz.func113 hmA (fun β=>by kernel_rfl) (by kernel_rfl) β w hh,by kernel_rfl⟩
abbrev cbC (a b b' c:R4):List Lf:=rL a++(rL b++rL b')++rL c
def CbWide (a b b' c:R4) (r:Bool):Prop:=∃ ra rb rb' rc:Bool,Lg1 a ra∧Lg1 b rb∧Lg1 b' rb'∧Lg1 c rc∧(ra||((rb||rb')||rc))=r
theorem CbWide.all (a b b' c:R4):∃ r,CbWide a b b' c r:=by
 obtain ⟨ra,ha⟩:=Lg1.all a
 obtain ⟨rb,hb⟩:=Lg1.all b
 obtain ⟨rb',hb'⟩:=Lg1.all b'
 obtain ⟨rc,hc⟩:=Lg1.all c
 exact ⟨_,ra,rb,rb',rc,ha,hb,hb',hc,rfl⟩
theorem wide1_ok {a b b' c:R4} {r:Bool} (h:CbWide a b b' c r) (β:Env) (w:World) (hh:(Ob.box (cbC a b b' c) 112).holds β w (β 0)) :
  Calls Tryz.prog 94 (([.one (.c (.b (.s 0 0 1 1)))]:List SV).map (SV.den β)).toArray w fun e w'=>e=.returned (.bool r)∧Below w.heap.size w w':=by
 obtain ⟨ra,rb,rb',rc,ha,hb,hb',hc,rfl⟩:=h
 cases ra with
 | true=>exact bspec_ok [(sLongF a ha).e] [] 1600 Tryz.func94 hmA (fun β=>by kernel_rfl) (by kernel_rfl) (fun β=>rfl) β w hh
 | false=>cases k:(rb||rb') with
  | true=>exact bspec_ok [(sLongF a ha).e,(sLongG1 hb hb' k).e] [] 1600 Tryz.func94 hmA (fun β=>by kernel_rfl) (by kernel_rfl) (fun β=>rfl) β w hh
  | false=>cases rc<;>exact bspec_ok [(sLongF a ha).e,(sLongG1 hb hb' k).e,(sLongF c hc).e] [] 1600 Tryz.func94 hmA (fun β=>by kernel_rfl) (by kernel_rfl) (fun β=>rfl) β w hh
def sWide1 {a b b' c:R4} {r:Bool} (h:CbWide a b b' c r):BSpec Tryz.prog :=
 ⟨94,Tryz.call94,[.one (.c (.b (.s 0 0 1 1)))],cbC a b b' c,112,.bool r,wide1_ok h,by kernel_rfl,fun _=>rfl⟩
theorem lg_sz {x:Rat} (h:Fit x) (k:Lg1 (fR x) false):Sz 100 x:=by
 obtain ⟨a,b,ha,hb,e⟩:=k
 have key:∀ {s:ByteArray} {a:T1},a.at s→a.yes=false→s.size≤1024→s.size≤100:=fun {s a} h1 h2 h3=>by
  cases a with
  | lo=>have:=of_decide_eq_false h1; omega
  | mid=>cases h2
  | hi=>have:=of_decide_eq_false h1.2; omega
 rw [Bool.or_eq_false_iff] at e
 exact ⟨key ha e.1 h.1,by rw [sz_nat]; exact key hb e.2 h.2⟩
abbrev ERN:TypeId:=28
theorem ok2_ok (e f:Int) (he:e=0∨e=4) (hf:f=0∨f=4) (β:Env) (w:World) (hh:(Ob.box [.b (.v (.int .i64 e)),.b (.v (.int .i64 f))] ERN).holds β w (β 0)) :
  Calls Tryz.prog 120 (([.one (.c (.b (.s 0 0 2 2)))]:List SV).map (SV.den β)).toArray w fun x w'=>x=.returned (.bool (decide (e=0)&&decide (f=0)))∧Below w.heap.size w w':=by
 rcases he with rfl | rfl
 · rcases hf with rfl | rfl
   · exact bspec_ok [(sNum11 0).e,(sNum11 0).e] [] 800 Tryz.func120 hmA (fun β=>by kernel_rfl) (by kernel_rfl) (fun β=>by kernel_rfl) β w hh
   · exact bspec_ok [(sNum11 0).e,(sNum11 4).e] [] 800 Tryz.func120 hmA (fun β=>by kernel_rfl) (by kernel_rfl) (fun β=>by kernel_rfl) β w hh
 · exact bspec_ok [(sNum11 4).e] [] 800 Tryz.func120 hmA (fun β=>by kernel_rfl) (by kernel_rfl) (fun β=>by kernel_rfl) β w hh
def sOk2 (e f:Int) (he:e=0∨e=4) (hf:f=0∨f=4):BSpec Tryz.prog :=
 ⟨120,Tryz.call120,[.one (.c (.b (.s 0 0 2 2)))],[.b (.v (.int .i64 e)),.b (.v (.int .i64 f))],ERN,.bool (decide (e=0)&&decide (f=0)),ok2_ok e f he hf,by kernel_rfl,fun _=>rfl⟩
theorem ok1_ok (e:Int) (he:e=0∨e=7) (β:Env) (w:World) (hh:(Ob.box [.b (.v (.int .i64 e))] ERN).holds β w (β 0)) :
  Calls Tryz.prog 120 (([.one (.c (.b (.s 0 0 1 1)))]:List SV).map (SV.den β)).toArray w fun x w'=>x=.returned (.bool (decide (e=0)))∧Below w.heap.size w w':=by
 rcases he with rfl | rfl
 · exact bspec_ok [(sNum11 0).e] [] 800 Tryz.func120 hmA (fun β=>by kernel_rfl) (by kernel_rfl) (fun β=>by kernel_rfl) β w hh
 · exact bspec_ok [(sNum11 7).e] [] 800 Tryz.func120 hmA (fun β=>by kernel_rfl) (by kernel_rfl) (fun β=>by kernel_rfl) β w hh
def sOk1 (e:Int) (he:e=0∨e=7):BSpec Tryz.prog :=
 ⟨120,Tryz.call120,[.one (.c (.b (.s 0 0 1 1)))],[.b (.v (.int .i64 e))],ERN,.bool (decide (e=0)),ok1_ok e he,by kernel_rfl,fun _=>rfl⟩
theorem fitC_1024 {r:RQ} (h:FitC r):RSz 1024 r:=⟨h.1.sz,h.2.1.gsz,h.2.2.sz⟩
section
variable {r:RQ} (h:MayC r) {m:MQ} (hm:MayQ m)
abbrev cbB (m:MQ):Bool:=gzero (mconj (mundo0 m) m.t).c
theorem cb_h0 (hm:MayQ m):gzero (bif cbB m then (mconj (mundo0 m) m.t).d else (mconj (mundo0 m) m.t).c)=false:=(minv_reg hm.reg).b0
theorem cb_pos (h:MayC r) (hm:MayQ m):0<fpr (imX0 r m (cbB m)) (imX0 r m (cbB m)):=im_pos h hm.2.1 (cb_h0 hm)
theorem cb_rby (h:MayC r) (hm:MayQ m):rby (imX0 r m (cbB m))≠0:=rby_ne (wt_pos (cb_pos h hm))
noncomputable def sImgG:Spec Tryz.prog :=
 ⟨249,Tryz.call249,[mV 0 m,rgV 8],mT m++rgT r,rgV 12,rgT (rone (imX0 r m (cbB m))),image_ok ((fitC_1024 h.fit).mono (by decide)) (fitM_sz hm.1) rfl (cb_h0 hm) (cb_rby h hm),by kernel_rfl⟩
theorem cb_sz (h:MayC r) (hm:MayQ m):RSz KC (rone (imX0 r m (cbB m))) :=
 (rnm_sz (imQ_sz ((fitC_1024 h.fit).mono (by decide)) (un_sz (fitM_sz hm.1) (cb_h0 hm)) m.t) (rby_sz (imQ_sz ((fitC_1024 h.fit).mono (by decide)) (un_sz (fitM_sz hm.1) (cb_h0 hm)) m.t) _ _) (cb_rby h hm)).mono (by decide)
noncomputable def sCbTold:Spec Tryz.prog:=(sRTold (r:=rone (imX0 r m (cbB m))) (cb_sz h hm) rfl rfl (by
 have:rby (rone (imX0 r m (cbB m)))≠0:=by rw [rby_one (cb_rby h hm)]; decide
 exact this)).conv (ciA (imR r m)) (by
  show ciA (rone (rone (imX0 r m (cbB m))))=_
  rw [rone_rone (cb_rby h hm)]
  rfl)
noncomputable def sCbImg:Spec Tryz.prog :=
 Spec.auto Tryz.call116 [.one (.a (mCl m)),.one (.a (cC r))] [] (ciA (imR r m)) [] [(sOpenYes hm).e,(sWheel h).e,(sImgG h hm).e,(sCbTold h hm).e] [] 800 Tryz.func116 hmA (by kernel_rfl) (fun β=>by kernel_rfl)
noncomputable def sCbImgY (hF:FitC (imR r m)):Spec Tryz.prog:=(sCbImg h hm).conv (.tup [.a (cC (imR r m)),nI' 0]) (by
 show ciA (imR r m)=_
 rw [ciA,(ci_fit hF).1,(ci_fit hF).2])
noncomputable def sCbImgN (hF:¬ FitC (imR r m)):Spec Tryz.prog:=(sCbImg h hm).conv (.tup [.a c0C,nI' 4]) (by
 show ciA (imR r m)=_
 rw [ciA,(ci_not hF).1,(ci_not hF).2])
theorem cb_may (hF:FitC (imR r m)) (h:MayC r) (hm:MayQ m):MayC (imR r m):=may_told (fitC_1024 hF) (cb_pos h hm)
theorem cb_pw (h:MayC r) (hs:RSz 100 r):Fit (rpow r):=(rpow_sz hs).fit (by decide)
noncomputable def sCbPow (hs:RSz 100 r):Spec Tryz.prog:=(Spec.auto Tryz.call100 [.one (.a (cC r))] [] (.tup [.a (fA (rpow r)),nI' (ansK (rpow r))]) [] [(sWheel h).e,(sPower h.sz).e,(sFrac ((rpow_sz hs).mono (by decide))).e] [] 800 Tryz.func100 hmA (by kernel_rfl) (fun β=>by kernel_rfl)).conv (.tup [.a (fC (rpow r)),nI' 0]) (by
 show SV.tup [.a (fA (rpow r)),nI' (ansK (rpow r))]=_
 rw [(fA_fit (cb_pw h hs)).1,(fA_fit (cb_pw h hs)).2])
noncomputable def sCbSqY (hs:RSz 100 r) (h0:(r.a.num.sign==0)=false):Spec Tryz.prog:=(Spec.auto Tryz.call99 [.one (.a (cC r))] [] (.tup [.a (fA (rpow r)),nI' (ansK (rpow r))]) [] [(sWheel h).e,nSign (x:=r.a) rfl,.eqv 19 (.bool (r.a.num.sign==0)) (.bool false) (by rw [h0]),(sPower h.sz).e,(sFrac ((rpow_sz hs).mono (by decide))).e] [] 800 Tryz.func99 hmA (by kernel_rfl) (fun β=>by kernel_rfl)).conv (.tup [.a (fC (rpow r)),nI' 0]) (by
 show SV.tup [.a (fA (rpow r)),nI' (ansK (rpow r))]=_
 rw [(fA_fit (cb_pw h hs)).1,(fA_fit (cb_pw h hs)).2])
noncomputable def sCbSqN (h0:(r.a.num.sign==0)=true):Spec Tryz.prog:=Spec.auto Tryz.call99 [.one (.a (cC r))] [] (.tup [.a (rL r40),nI' 7]) [] [(sWheel h).e,nSign (x:=r.a) rfl,.eqv 19 (.bool (r.a.num.sign==0)) (.bool true) (by rw [h0])] [] 800 Tryz.func99 hmA (by kernel_rfl) (fun β=>by kernel_rfl)
end
theorem fR_r40 (x:Rat):fR x≠r40:=fun e=>by
 have h:mag x.den=⟨#[]⟩:=congrArg R4.t e
 have h0:mag 0=⟨#[]⟩:=by unfold mag; rw [led_zero]; rfl
 have:=mag_inj (h.trans h0.symm)
 exact x.den_nz this
theorem open0_ex:∃ t:Bool,∀ (β:Env) (w:World),Calls Tryz.prog 196 (([.one mob0]:List SV).map (SV.den β)).toArray w fun e w'=>∃ xs:List Pl,freshS β w 0 xs∧e=.returned ((SV.tup [mB 0 t,.c (.b (.v (.bool false)))]).den (extE β 0 xs))∧newHold w' any8 xs∧Below w.heap.size w w':=by
 obtain ⟨a,ha⟩:=fr_of r40 ⟨Nat.zero_le _,Nat.zero_le _⟩
 have hC:(⟨a,a,a,a,a,a,a,a,false⟩:Mp).C=rL r40++rL r40++rL r40++rL r40++rL r40++rL r40++rL r40++rL r40++[.b (.v (.bool false))]:=by
  unfold Mp.C
  dsimp only
  rw [ha]
 rcases open_all ⟨a,a,a,a,a,a,a,a,false⟩ with ⟨q,hq,e⟩ | ⟨t,h⟩
 · exfalso
   rw [hC] at e
   have h3:=congrArg (fun l:List Lf=>l[3]?) e
   have h4:mag q.a.re.den=⟨#[]⟩:=by
    have h5:Lf.b (.v (.string ⟨#[]⟩))=Lf.b (.v (.string (mag q.a.re.den))):=Option.some.inj (show some (Lf.b (.v (.string ⟨#[]⟩)))=some (Lf.b (.v (.string (mag q.a.re.den)))) from h3)
    injection h5 with h5
    injection h5 with h5
    injection h5 with h5
    exact h5.symm
   have h0:mag 0=⟨#[]⟩:=by unfold mag; rw [led_zero]; rfl
   exact q.a.re.den_nz (mag_inj (h4.trans h0.symm))
 · refine ⟨t,fun β w=>?_⟩
   have:=h β w
   rw [hC] at this
   exact this
noncomputable def sOpen0:Spec Tryz.prog :=
 ⟨196,Tryz.call196,[.one mob0],[],.tup [mB 0 open0_ex.choose,.c (.b (.v (.bool false)))],any8,fun β w _=>open0_ex.choose_spec β w,by kernel_rfl⟩
theorem wheel0:WheelNo c0C:=by
 obtain ⟨a,ha⟩:=fn_of r40 ⟨Nat.zero_le _,Nat.zero_le _⟩
 obtain ⟨g,hx,hy⟩:=gn_of r40 r40 ⟨Nat.zero_le _,Nat.zero_le _⟩ ⟨Nat.zero_le _,Nat.zero_le _⟩
 have hB:a.B=false:=by
  cases a with
  | ok x h=>exact absurd ha (fR_r40 x)
  | no f h=>rfl
 have:=wheelNum a g a (by rw [hB]; rfl)
 rw [ha,hx,hy] at this
 exact this
def sWheel0:Spec Tryz.prog:=sWheelNo wheel0 rfl
section
variable {r:RQ} (h:MayC r) {m:MQ} (hm:MayQ m)
noncomputable def sCbImgM0:Spec Tryz.prog :=
 Spec.auto Tryz.call116 [.one mob0,.one (.a (cC r))] [] (.tup [.a c0C,nI' 2]) [] [sOpen0.e,(sWheel h).e] [] 800 Tryz.func116 hmA (by kernel_rfl) (fun β=>by kernel_rfl)
noncomputable def sCbImgC0:Spec Tryz.prog :=
 Spec.auto Tryz.call116 [.one (.a (mCl m)),.one (.a c0C)] [] (.tup [.a c0C,nI' 2]) [] [(sOpenYes hm).e,sWheel0.e] [] 800 Tryz.func116 hmA (by kernel_rfl) (fun β=>by kernel_rfl)
end
structure M8 where
 x0:R4
 y0:R4
 x1:R4
 y1:R4
 x2:R4
 y2:R4
 x3:R4
 y3:R4
 t:Bool
def M8.far (m:M8) (r:Bool):Prop:=CbFar m.x0 m.y0 m.x1 m.y1 m.x2 m.y2 m.x3 m.y3 r
abbrev M8.C (m:M8):List Lf:=cbM m.x0 m.y0 m.x1 m.y1 m.x2 m.y2 m.x3 m.y3 m.t
def M8.sFar (m:M8) {r:Bool} (h:m.far r):Spec Tryz.prog:=sFar11 m.x0 m.y0 m.x1 m.y1 m.x2 m.y2 m.x3 m.y3 m.t h
abbrev cbA (a b b' c:R4) (m n:M8):List SV:=[.one (.a (cbC a b b' c)),.one (.a m.C),.one (.a n.C)]
section
variable (a b b' c:R4) (m n:M8)
noncomputable def cb1 (h:CbWide a b b' c true):Spec Tryz.prog :=
 Spec.auto Tryz.call13 (cbA a b b' c m n) [] (tB' true) [] [(sWide1 h).e,sWorks11.e] [] 2000 Tryz.func13 hmA (by kernel_rfl) (fun β=>by kernel_rfl)
noncomputable def cb2 (h:CbWide a b b' c false) (h2:m.far true):Spec Tryz.prog :=
 Spec.auto Tryz.call13 (cbA a b b' c m n) [] (tB' true) [] [(sWide1 h).e,(m.sFar h2).e,sWorks11.e] [] 2000 Tryz.func13 hmA (by kernel_rfl) (fun β=>by kernel_rfl)
noncomputable def cb3 (h:CbWide a b b' c false) (h2:m.far false) (h3:n.far true):Spec Tryz.prog :=
 Spec.auto Tryz.call13 (cbA a b b' c m n) [] (tB' true) [] [(sWide1 h).e,(m.sFar h2).e,(n.sFar h3).e,sWorks11.e] [] 2000 Tryz.func13 hmA (by kernel_rfl) (fun β=>by kernel_rfl)
noncomputable def cb4 (h:CbWide a b b' c false) (h2:m.far false) (h3:n.far false) (h4:CkNo (cbC a b b' c)):Spec Tryz.prog :=
 Spec.auto Tryz.call13 (cbA a b b' c m n) [] (tB' true) [] [(sWide1 h).e,(m.sFar h2).e,(n.sFar h3).e,(sCkNo h4).e,(sNum11 2).e,sWorks11.e] [] 2000 Tryz.func13 hmA (by kernel_rfl) (fun β=>by kernel_rfl)
end
abbrev cbL (l0 l1 l2:List Lf):List SV:=[.one (.a l0),.one (.a l1),.one (.a l2)]
def mp8 (m:Mp):M8:=⟨m.a.r,m.a'.r,m.b.r,m.b'.r,m.c.r,m.c'.r,m.d.r,m.d'.r,m.t⟩
def mq8 (q:MQ):M8:=⟨fR q.a.re,fR q.a.im,fR q.b.re,fR q.b.im,fR q.c.re,fR q.c.im,fR q.d.re,fR q.d.im,q.t⟩
abbrev rWide (r:RQ):Prop:=CbWide (fR r.a) (fR r.b.re) (fR r.b.im) (fR r.c) false
section
variable {r:RQ} (h:MayC r) (h1:rWide r)
noncomputable def cb5 (m:Mp) (n:M8) {t:Bool} (h2:(mp8 m).far false) (h3:n.far false) (ho:OpenNo m t):Spec Tryz.prog :=
 Spec.auto Tryz.call13 (cbL (cC r) m.C n.C) [] (tB' true) [] [(sWide1 h1).e,((mp8 m).sFar h2).e,(n.sFar h3).e,(sCCheck h).e,(sNum11 0).e,(sMbChkNo ho).e,(sNum11 2).e,sWorks11.e] [] 2000 Tryz.func13 hmA (by kernel_rfl) (fun β=>by kernel_rfl)
noncomputable def cb6 {m:MQ} (hm:MayQ m) (n:Mp) {t:Bool} (h2:(mq8 m).far false) (h3:(mp8 n).far false) (ho:OpenNo n t):Spec Tryz.prog :=
 Spec.auto Tryz.call13 (cbL (cC r) (mCl m) n.C) [] (tB' true) [] [(sWide1 h1).e,((mq8 m).sFar h2).e,((mp8 n).sFar h3).e,(sCCheck h).e,(sNum11 0).e,(sMbChk hm).e,(sNum11 0).e,(sMbChkNo ho).e,(sNum11 2).e,sWorks11.e] [] 2000 Tryz.func13 hmA (by kernel_rfl) (fun β=>by kernel_rfl)
end
theorem may_nrm {q:MQ} (hF:FitM q) (hr:Reg q) (hn:Nrm q):MayQ q:=by
 refine ⟨hF,gz_false.2 hr,?_⟩
 unfold Nrm at hn
 have one0:∀ {z:GQ},z=⟨1,0⟩→gzero (gsub z (gint 1 0))=true:=fun {z} e=>by
  rw [e,gz_true,gint10]
  exact GQ.ext2 (by simp only [gsub,g0]; grind) (by simp only [gsub,g0]; grind)
 cases hc:gzero q.c with
 | false=>rw [hc] at hn; exact .inl (one0 hn)
 | true=>rw [hc] at hn; exact .inr ⟨rfl,one0 hn⟩
theorem may_cmp {m n:MQ} (hm:MayQ m) (hn:MayQ n) (hE:FitM (mcmp m n)):MayQ (mcmp m n):=may_nrm hE (hm.reg.cmp hn.reg) (Nrm.cmp hm.reg hn.reg)
theorem cb_comp {r:RQ} (h:MayC r) {m n:MQ} (hm:MayQ m) (hn:MayQ n):imR (imR r n) m=imR r (mcmp m n):=by
 refine im_comp r hm.reg hn.reg ?_
 have hp:0<fpr (imQ r (minv0 n) n.t) (imQ r (minv0 n) n.t):=by
  rw [im_fpr]
  refine Rat.mul_pos ?_ (may_pos h)
  have:=dt_undo n
  unfold minv0
  rw [this]
  exact gn_pos (gn_ne hn.2.1)
 exact rby_ne (wt_pos hp)
structure CbD (r:RQ) (m n:MQ):Prop where
 h:MayC r
 w:rWide r
 hm:MayQ m
 hn:MayQ n
 fm:(mq8 m).far false
 fn:(mq8 n).far false
 sz:RSz 100 r
section
variable {r:RQ} {m n:MQ} (D:CbD r m n)
noncomputable def cbP:List (Ev Tryz.prog):=[(sWide1 D.w).e,((mq8 m).sFar D.fm).e,((mq8 n).sFar D.fn).e,(sCCheck D.h).e,(sNum11 0).e,(sMbChk D.hm).e,(sNum11 0).e,(sMbChk D.hn).e,(sNum11 0).e]
inductive CbK (r:RQ) (m n:MQ):Prop where
 | a (hE:FitM (mcmp m n)) (hF:FitC (imR r n)) (hG:FitC (imR r (mcmp m n)))
 | b (hE:FitM (mcmp m n)) (hF:FitC (imR r n)) (hG:¬ FitC (imR r (mcmp m n)))
 | c (hE:FitM (mcmp m n)) (hF:¬ FitC (imR r n))
 | d (hE:¬ FitM (mcmp m n)) (hF:FitC (imR r n))
 | e (hE:¬ FitM (mcmp m n)) (hF:¬ FitC (imR r n))
theorem CbK.all (r:RQ) (m n:MQ):CbK r m n:=by
 by_cases hE:FitM (mcmp m n)
 · by_cases hF:FitC (imR r n)
   · by_cases hG:FitC (imR r (mcmp m n))
     · exact .a hE hF hG
     · exact .b hE hF hG
   · exact .c hE hF
 · by_cases hF:FitC (imR r n)
   · exact .d hE hF
   · exact .e hE hF
noncomputable def cbI1Y (hF:FitC (imR r n)) (hG:FitC (imR r (mcmp m n))):Spec Tryz.prog:=(sCbImg (cb_may hF D.h D.hn) D.hm).conv (.tup [.a (cC (imR r (mcmp m n))),nI' 0]) (by
 show ciA (imR (imR r n) m)=_
 rw [cb_comp D.h D.hm D.hn,ciA,(ci_fit hG).1,(ci_fit hG).2])
noncomputable def cbI1N (hF:FitC (imR r n)) (hG:¬ FitC (imR r (mcmp m n))):Spec Tryz.prog:=(sCbImg (cb_may hF D.h D.hn) D.hm).conv (.tup [.a c0C,nI' 4]) (by
 show ciA (imR (imR r n) m)=_
 rw [cb_comp D.h D.hm D.hn,ciA,(ci_not hG).1,(ci_not hG).2])
noncomputable def cbEa (hE:FitM (mcmp m n)) (hF:FitC (imR r n)) (hG:FitC (imR r (mcmp m n))):List (Ev Tryz.prog) :=
 [(sCompY D.hm D.hn hE).e,(sCbImgY D.h D.hn hF).e,(cbI1Y D hF hG).e,(sCbImgY D.h (may_cmp D.hm D.hn hE) hG).e,(sOk2 0 0 (.inl rfl) (.inl rfl)).e,(sNum11 0).e,(sNum11 0).e,eqC1 (fR (imR r (mcmp m n)).a) (fR (imR r (mcmp m n)).b.re) (fR (imR r (mcmp m n)).b.im) (fR (imR r (mcmp m n)).c)]
noncomputable def cbEb (hE:FitM (mcmp m n)) (hF:FitC (imR r n)) (hG:¬ FitC (imR r (mcmp m n))):List (Ev Tryz.prog) :=
 [(sCompY D.hm D.hn hE).e,(sCbImgY D.h D.hn hF).e,(cbI1N D hF hG).e,(sCbImgN D.h (may_cmp D.hm D.hn hE) hG).e,(sOk2 0 0 (.inl rfl) (.inl rfl)).e,(sNum11 4).e,(sNum11 4).e,eqC1 r40 r40 r40 r40]
noncomputable def cbEc (hE:FitM (mcmp m n)) (hF:¬ FitC (imR r n)):List (Ev Tryz.prog) :=
 [(sCompY D.hm D.hn hE).e,(sCbImgN D.h D.hn hF).e,(sCbImgC0 D.hm).e,(sCbImg D.h (may_cmp D.hm D.hn hE)).e,(sOk2 0 4 (.inl rfl) (.inr rfl)).e]
noncomputable def cbEd (hE:¬ FitM (mcmp m n)) (hF:FitC (imR r n)):List (Ev Tryz.prog) :=
 [(sCompN D.hm D.hn hE).e,(sCbImgY D.h D.hn hF).e,(sCbImg (cb_may hF D.h D.hn) D.hm).e,(sCbImgM0 D.h).e,(sOk2 4 0 (.inr rfl) (.inl rfl)).e]
noncomputable def cbEe (hE:¬ FitM (mcmp m n)) (hF:¬ FitC (imR r n)):List (Ev Tryz.prog) :=
 [(sCompN D.hm D.hn hE).e,(sCbImgN D.h D.hn hF).e,(sCbImgC0 D.hm).e,(sCbImgM0 D.h).e,(sOk2 4 4 (.inr rfl) (.inr rfl)).e]
noncomputable def cbTY (h0:(r.a.num.sign==0)=false):List (Ev Tryz.prog) :=
 [(sCbSqY D.h D.sz h0).e,(sCbPow D.h D.sz).e,(sOk1 0 (.inl rfl)).e,(sOk1 0 (.inl rfl)).e,eqEvF (fR (rpow r)) (fR (rpow r)) true (R4.eq_iff.2 rfl),sWorks11.e]
noncomputable def cbTN (h0:(r.a.num.sign==0)=true):List (Ev Tryz.prog) :=
 [(sCbSqN D.h h0).e,(sCbPow D.h D.sz).e,(sOk1 0 (.inl rfl)).e,(sOk1 7 (.inr rfl)).e,(sNum11 7).e,eqEvF r40 r40 true (R4.eq_iff.2 rfl),sWorks11.e]
noncomputable def cbS (evs:List (Ev Tryz.prog)) (h:∀ β,(specA Tryz.prog Tryz.f13 (cbL (cC r) (mCl m) (mCl n)) [] (cbP D++evs) [] 2600 (tB' true) [] β).map Prod.fst=(specA Tryz.prog Tryz.f13 (cbL (cC r) (mCl m) (mCl n)) [] (cbP D++evs) [] 2600 (tB' true) [] β).map Prod.snd):Spec Tryz.prog :=
 Spec.auto Tryz.call13 (cbL (cC r) (mCl m) (mCl n)) [] (tB' true) [] (cbP D++evs) [] 2600 Tryz.func13 hmA (by kernel_rfl) h
noncomputable def cbAY (hE:FitM (mcmp m n)) (hF:FitC (imR r n)) (hG:FitC (imR r (mcmp m n))) (h0:(r.a.num.sign==0)=false):Spec Tryz.prog:=cbS D (cbEa D hE hF hG++cbTY D h0) (fun β=>by kernel_rfl)
noncomputable def cbAN (hE:FitM (mcmp m n)) (hF:FitC (imR r n)) (hG:FitC (imR r (mcmp m n))) (h0:(r.a.num.sign==0)=true):Spec Tryz.prog:=cbS D (cbEa D hE hF hG++cbTN D h0) (fun β=>by kernel_rfl)
noncomputable def cbBY (hE:FitM (mcmp m n)) (hF:FitC (imR r n)) (hG:¬ FitC (imR r (mcmp m n))) (h0:(r.a.num.sign==0)=false):Spec Tryz.prog:=cbS D (cbEb D hE hF hG++cbTY D h0) (fun β=>by kernel_rfl)
noncomputable def cbBN (hE:FitM (mcmp m n)) (hF:FitC (imR r n)) (hG:¬ FitC (imR r (mcmp m n))) (h0:(r.a.num.sign==0)=true):Spec Tryz.prog:=cbS D (cbEb D hE hF hG++cbTN D h0) (fun β=>by kernel_rfl)
noncomputable def cbCY (hE:FitM (mcmp m n)) (hF:¬ FitC (imR r n)) (h0:(r.a.num.sign==0)=false):Spec Tryz.prog:=cbS D (cbEc D hE hF++cbTY D h0) (fun β=>by kernel_rfl)
noncomputable def cbCN (hE:FitM (mcmp m n)) (hF:¬ FitC (imR r n)) (h0:(r.a.num.sign==0)=true):Spec Tryz.prog:=cbS D (cbEc D hE hF++cbTN D h0) (fun β=>by kernel_rfl)
noncomputable def cbDY (hE:¬ FitM (mcmp m n)) (hF:FitC (imR r n)) (h0:(r.a.num.sign==0)=false):Spec Tryz.prog:=cbS D (cbEd D hE hF++cbTY D h0) (fun β=>by kernel_rfl)
noncomputable def cbDN (hE:¬ FitM (mcmp m n)) (hF:FitC (imR r n)) (h0:(r.a.num.sign==0)=true):Spec Tryz.prog:=cbS D (cbEd D hE hF++cbTN D h0) (fun β=>by kernel_rfl)
noncomputable def cbEY (hE:¬ FitM (mcmp m n)) (hF:¬ FitC (imR r n)) (h0:(r.a.num.sign==0)=false):Spec Tryz.prog:=cbS D (cbEe D hE hF++cbTY D h0) (fun β=>by kernel_rfl)
noncomputable def cbEN (hE:¬ FitM (mcmp m n)) (hF:¬ FitC (imR r n)) (h0:(r.a.num.sign==0)=true):Spec Tryz.prog:=cbS D (cbEe D hE hF++cbTN D h0) (fun β=>by kernel_rfl)
end
theorem m8_inj {x y:M8} (h:x.C=y.C):x=y:=by
 obtain ⟨⟨a1,a2,a3,a4⟩,⟨b1,b2,b3,b4⟩,⟨c1,c2,c3,c4⟩,⟨d1,d2,d3,d4⟩,⟨e1,e2,e3,e4⟩,⟨f1,f2,f3,f4⟩,⟨g1,g2,g3,g4⟩,⟨k1,k2,k3,k4⟩,t⟩:=x
 obtain ⟨⟨a1',a2',a3',a4'⟩,⟨b1',b2',b3',b4'⟩,⟨c1',c2',c3',c4'⟩,⟨d1',d2',d3',d4'⟩,⟨e1',e2',e3',e4'⟩,⟨f1',f2',f3',f4'⟩,⟨g1',g2',g3',g4'⟩,⟨k1',k2',k3',k4'⟩,t'⟩:=y
 simp [M8.C,cbM,rL] at h
 simp [h]
theorem wide_sz {r:RQ} (hf:FitC r) (h:rWide r):RSz 100 r:=by
 obtain ⟨ra,rb,rb',rc,ha,hb,hb',hc,e⟩:=h
 rw [Bool.or_eq_false_iff,Bool.or_eq_false_iff,Bool.or_eq_false_iff] at e
 obtain ⟨rfl,⟨rfl,rfl⟩,rfl⟩:=e
 exact ⟨lg_sz hf.1 ha,⟨lg_sz hf.2.1.1 hb,lg_sz hf.2.1.2 hb'⟩,lg_sz hf.2.2 hc⟩
theorem cb_main {r:RQ} {m n:MQ} (D:CbD r m n) (W:World):Calls Tryz.prog 13 ((cbL (cC r) (mCl m) (mCl n)).map (SV.den idE)).toArray W fun e w'=>e=.returned (.bool true)∧Below W.heap.size W w':=by
 cases h0:(r.a.num.sign==0) with
 | false =>
  rcases CbK.all r m n with ⟨hE,hF,hG⟩ | ⟨hE,hF,hG⟩ | ⟨hE,hF⟩ | ⟨hE,hF⟩ | ⟨hE,hF⟩
  · exact spec_yes (cbAY D hE hF hG h0) rfl rfl W
  · exact spec_yes (cbBY D hE hF hG h0) rfl rfl W
  · exact spec_yes (cbCY D hE hF h0) rfl rfl W
  · exact spec_yes (cbDY D hE hF h0) rfl rfl W
  · exact spec_yes (cbEY D hE hF h0) rfl rfl W
 | true =>
  rcases CbK.all r m n with ⟨hE,hF,hG⟩ | ⟨hE,hF,hG⟩ | ⟨hE,hF⟩ | ⟨hE,hF⟩ | ⟨hE,hF⟩
  · exact spec_yes (cbAN D hE hF hG h0) rfl rfl W
  · exact spec_yes (cbBN D hE hF hG h0) rfl rfl W
  · exact spec_yes (cbCN D hE hF h0) rfl rfl W
  · exact spec_yes (cbDN D hE hF h0) rfl rfl W
  · exact spec_yes (cbEN D hE hF h0) rfl rfl W
theorem cb_join (p:Cp) (m n:Mp) (W:World):Calls Tryz.prog 13 ((cbL (cbC p.a p.b p.b' p.c) (mp8 m).C (mp8 n).C).map (SV.den idE)).toArray W fun e w'=>e=.returned (.bool true)∧Below W.heap.size W w':=by
 obtain ⟨r1,h1⟩:=CbWide.all p.a p.b p.b' p.c
 obtain ⟨r2,h2⟩:∃ r,(mp8 m).far r:=CbFar.all ..
 obtain ⟨r3,h3⟩:∃ r,(mp8 n).far r:=CbFar.all ..
 cases r1 with
 | true=>exact spec_yes (cb1 p.a p.b p.b' p.c (mp8 m) (mp8 n) h1) rfl rfl W
 | false=>cases r2 with
  | true=>exact spec_yes (cb2 p.a p.b p.b' p.c (mp8 m) (mp8 n) h1 h2) rfl rfl W
  | false=>cases r3 with
   | true=>exact spec_yes (cb3 p.a p.b p.b' p.c (mp8 m) (mp8 n) h1 h2 h3) rfl rfl W
   | false=>cases p with
    | no a b b' c k=>exact spec_yes (cb4 a b b' c (mp8 m) (mp8 n) h1 h2 h3 k) rfl rfl W
    | ok r h =>
     have h1:rWide r:=h1
     rcases open_all m with ⟨q,hq,e⟩ | ⟨t,ho⟩
     · have e1:mp8 m=mq8 q:=m8_inj (show (mp8 m).C=(mq8 q).C from e)
       rw [e1] at h2 ⊢
       rcases open_all n with ⟨q',hq',e'⟩ | ⟨t,ho⟩
       · have e2:mp8 n=mq8 q':=m8_inj (show (mp8 n).C=(mq8 q').C from e')
         rw [e2] at h3 ⊢
         exact cb_main ⟨h,h1,hq,hq',h2,h3,wide_sz h.fit h1⟩ W
       · exact spec_yes (cb6 h h1 hq n h2 h3 ho) rfl rfl W
     · exact spec_yes (cb5 h h1 m (mp8 n) h2 h3 ho) rfl rfl W
theorem _root_.Go.Proofs.YtdiemgedlfnlmaaGreat.CircBehind_walk (p:Cp) (x2_0 y2_0 x2_1 y2_1 x2_2 y2_2 x2_3 y2_3:R4) (t2:Bool) (x3_0 y3_0 x3_1 y3_1 x3_2 y3_2 x3_3 y3_3:R4) (t3:Bool) (hx2_0:x2_0.s.size≤maxLen∧x2_0.t.size≤maxLen) (hy2_0:y2_0.s.size≤maxLen∧y2_0.t.size≤maxLen) (hx2_1:x2_1.s.size≤maxLen∧x2_1.t.size≤maxLen) (hy2_1:y2_1.s.size≤maxLen∧y2_1.t.size≤maxLen) (hx2_2:x2_2.s.size≤maxLen∧x2_2.t.size≤maxLen) (hy2_2:y2_2.s.size≤maxLen∧y2_2.t.size≤maxLen) (hx2_3:x2_3.s.size≤maxLen∧x2_3.t.size≤maxLen) (hy2_3:y2_3.s.size≤maxLen∧y2_3.t.size≤maxLen) (hx3_0:x3_0.s.size≤maxLen∧x3_0.t.size≤maxLen) (hy3_0:y3_0.s.size≤maxLen∧y3_0.t.size≤maxLen) (hx3_1:x3_1.s.size≤maxLen∧x3_1.t.size≤maxLen) (hy3_1:y3_1.s.size≤maxLen∧y3_1.t.size≤maxLen) (hx3_2:x3_2.s.size≤maxLen∧x3_2.t.size≤maxLen) (hy3_2:y3_2.s.size≤maxLen∧y3_2.t.size≤maxLen) (hx3_3:x3_3.s.size≤maxLen∧x3_3.t.size≤maxLen) (hy3_3:y3_3.s.size≤maxLen∧y3_3.t.size≤maxLen) (W:World) :
  Calls Tryz.prog 13 #[.agg (p.a.V++p.b.V++p.b'.V++p.c.V).toArray,.agg (x2_0.V++y2_0.V++x2_1.V++y2_1.V++x2_2.V++y2_2.V++x2_3.V++y2_3.V++[Value.bool t2]).toArray,.agg (x3_0.V++y3_0.V++x3_1.V++y3_1.V++x3_2.V++y3_2.V++x3_3.V++y3_3.V++[Value.bool t3]).toArray] W fun e w'=>e=.returned (.bool true)∧Below W.heap.size W w':=by
 obtain ⟨ax2_0,rfl⟩:=fr_of x2_0 hx2_0
 obtain ⟨ay2_0,rfl⟩:=fr_of y2_0 hy2_0
 obtain ⟨ax2_1,rfl⟩:=fr_of x2_1 hx2_1
 obtain ⟨ay2_1,rfl⟩:=fr_of y2_1 hy2_1
 obtain ⟨ax2_2,rfl⟩:=fr_of x2_2 hx2_2
 obtain ⟨ay2_2,rfl⟩:=fr_of y2_2 hy2_2
 obtain ⟨ax2_3,rfl⟩:=fr_of x2_3 hx2_3
 obtain ⟨ay2_3,rfl⟩:=fr_of y2_3 hy2_3
 obtain ⟨ax3_0,rfl⟩:=fr_of x3_0 hx3_0
 obtain ⟨ay3_0,rfl⟩:=fr_of y3_0 hy3_0
 obtain ⟨ax3_1,rfl⟩:=fr_of x3_1 hx3_1
 obtain ⟨ay3_1,rfl⟩:=fr_of y3_1 hy3_1
 obtain ⟨ax3_2,rfl⟩:=fr_of x3_2 hx3_2
 obtain ⟨ay3_2,rfl⟩:=fr_of y3_2 hy3_2
 obtain ⟨ax3_3,rfl⟩:=fr_of x3_3 hx3_3
 obtain ⟨ay3_3,rfl⟩:=fr_of y3_3 hy3_3
 exact cb_join p ⟨ax2_0,ay2_0,ax2_1,ay2_1,ax2_2,ay2_2,ax2_3,ay2_3,t2⟩ ⟨ax3_0,ay3_0,ax3_1,ay3_1,ax3_2,ay3_2,ax3_3,ay3_3,t3⟩ W
end Go.Proofs.YtdiemgedlfnlmaaGreat.Y
end
section
namespace Go.Proofs.YtdiemgedlfnlmaaGreat
open Go.ChangeShapes Go.WideShapes Go.ChangeAt Go.RowKit
theorem cellsOf_bool:Tryz.prog.cellsOf 4=1:=by kernel_rfl
theorem cellsOf_string:Tryz.prog.cellsOf 9=1:=by kernel_rfl
theorem cellsOf_whole:Tryz.prog.cellsOf 23=2:=by kernel_rfl
theorem cellsOf_frac:Tryz.prog.cellsOf 25=4:=by kernel_rfl
section
variable {H:Type} {enc:TypeId × Value→H} {w:World} {base:Nat} {spare:Nat→Bool} {held:Bool}
set_option maxRecDepth 100000 in
theorem trod_whole {fuel:Nat} {cs:List Value} {x:DataW H × List MemPlace} (h:DataW.trod enc Tryz.prog w base spare held fuel 23 cs=some x) :
  ∃ (b:Bool) (s:ByteArray),cs=[.bool b,.string s]∧s.size≤maxLen:=by
 obtain ⟨xs,n,rfl,_,hlen,hxl,hf⟩:=DataW.trod_struct Tryz.underlying23 h
 rw [cellsOf_whole] at hlen
 have hx0:xs[0]?=some (xs[0]'(by rw [hxl]; decide)):=List.getElem?_eq_getElem _
 have hx1:xs[1]?=some (xs[1]'(by rw [hxl]; decide)):=List.getElem?_eq_getElem _
 have h0:DataW.trod enc Tryz.prog w base spare held n 4 ((cs.drop 0).take (Tryz.prog.cellsOf 4))=some _:=(hf 0 _ rfl).trans hx0
 have h1:DataW.trod enc Tryz.prog w base spare held n 9 ((cs.drop 1).take (Tryz.prog.cellsOf 9))=some _:=(hf 1 _ rfl).trans hx1
 rw [cellsOf_bool] at h0
 rw [cellsOf_string] at h1
 match cs,hlen with
 | [a,b],_ =>
  obtain ⟨p,e0,_⟩:=DataW.trod_bool Tryz.underlying4 h0
  obtain ⟨s,e1,_,hs⟩:=DataW.trod_string Tryz.underlying9 h1
  cases e0
  cases e1
  exact ⟨p,s,rfl,hs⟩
set_option maxRecDepth 100000 in
theorem trod_frac {fuel:Nat} {cs:List Value} {x:DataW H × List MemPlace} (h:DataW.trod enc Tryz.prog w base spare held fuel 25 cs=some x) :
  ∃ (b c:Bool) (s t:ByteArray),cs=[.bool b,.string s,.bool c,.string t]∧s.size≤maxLen∧t.size≤maxLen:=by
 obtain ⟨xs,n,rfl,_,hlen,hxl,hf⟩:=DataW.trod_struct Tryz.underlying25 h
 rw [cellsOf_frac] at hlen
 have hx0:xs[0]?=some (xs[0]'(by rw [hxl]; decide)):=List.getElem?_eq_getElem _
 have hx1:xs[1]?=some (xs[1]'(by rw [hxl]; decide)):=List.getElem?_eq_getElem _
 have h0:DataW.trod enc Tryz.prog w base spare held n 23 ((cs.drop 0).take (Tryz.prog.cellsOf 23))=some _:=(hf 0 _ rfl).trans hx0
 have h1:DataW.trod enc Tryz.prog w base spare held n 23 ((cs.drop 2).take (Tryz.prog.cellsOf 23))=some _:=(hf 1 _ rfl).trans hx1
 rw [cellsOf_whole] at h0 h1
 match cs,hlen with
 | [a,b,c,d],_ =>
  obtain ⟨p,s,e0,hs⟩:=trod_whole h0
  obtain ⟨q,t,e1,ht⟩:=trod_whole h1
  cases e0
  cases e1
  exact ⟨p,q,s,t,rfl,hs,ht⟩
end
end Go.Proofs.YtdiemgedlfnlmaaGreat
end
