/- SyR, SyF, Bwd, EqM, L8, MkA, Mcp, LsA, LsR, LsO, MdB, CkN, MdC, LgF, MoB, Wks, MkB. -/
import Derived.RangeFuncKeeps
import Derived.OrdersIn
import Derived.TacticsIn
import Derived.RangeFuncWrites
import Derived.RangeFuncLeaves
import Derived.RangeFuncBox
import Derived.Shelf.Abstract
import Derived.WalkKit
import Derived.OwnWalkIn
import Derived.TacticsInMore
import Derived.LoopNIn
import Derived.LoopIn
import Derived.Deep.MidRow
import Derived.Test.YtbepimnlleilfaaGreatProg
import Derived.Deep.Upon
import Derived.Test.YtbepimnlleilfaaGreatJk11
set_option linter.unnecessarySimpa false
set_option linter.unusedVariables false
set_option linter.unusedSimpArgs false
section
namespace Go.Proofs.YtbepimnlleilfaaGreat.Y
open Go Go.RowKit
abbrev RF (l:Option Nat):Fence:={ Fence.wide with round:=l }
theorem callsIn_rf {l:Option Nat} {n:Nat} {P:Program} {f:FuncId} {args:Array Value} {w:World} {R:Ending→World→Prop} (h:Calls P f args w R):CallsIn (RF l) n P f args w R:=(callsIn_wide (n:=n)).2 h
theorem rowsIn_rf {l:Option Nat} {n:Nat} {P:Program} {row:String} {args:Array Value} {w:World} {R:Value→World→Prop} (h:Rows P row args w R):RowsIn (RF l) n P row args w R :=
 fun c cs _=>let ⟨v,w',r,s⟩:=h c cs; ⟨v,w',r,(stepsIn_wide (P:=P)).2 s⟩
def isDefer:Op→Bool
 | .defer _=>true
 | _=>false
section
variable {l:Option Nat} {n:Nat} {P:Program} {Q:Exit→Act→World→Prop}
theorem oper_rf {o:Oper} (hd:isDefer o.op=false) {a:Act} {w:World} {K:Act→World→Prop} (h:o.wp P a w K Q):o.wpIn (RF l) n P a w K Q:=by
 refine ⟨fun _ _=>trivial,?_⟩
 rw [Oper.semAt_eq _ _ _ (fun c e=>by rw [e] at hd; cases hd)]
 unfold Oper.wp at h
 generalize (execOp a.eval o).run P w=r at *
 cases r with
 | ok x w' =>
  cases x<;>simp only [Oper.upon,Oper.uponIn] at h ⊢ <;>
   first
    | exact h
    | exact ⟨fun e=>by simp [Fence.wide] at e,callsIn_rf h⟩
    | exact ⟨fun e=>by simp [Fence.wide] at e,rowsIn_rf h⟩
    | exact h.elim
 | halt hh w'=>cases hh<;>simp only [Oper.upon,Oper.uponIn] at h ⊢<;>first | exact h | exact h.elim
variable {ops:Array Oper} (hL:¬ LetsOut Q)
include hL
theorem any_rf (hops:∀ o∈ops,isDefer o.op=false) {md:Region.Mode}:∀ (fuel:Nat) (listed:Array Bool) (a:Act) (w:World),wpAny P md ops Q fuel listed a w→wpAnyIn (RF l) n P md ops Q fuel listed a w
 | 0,_,_,_,h=>h
 | fuel+1,listed,a,w,h=>⟨h.1,fun i hi=>by
  have h1:=h.2 i hi
  unfold wpOp at h1
  unfold wpOpIn
  split
  · rename_i e
    rw [e] at h1
    exact any_rf hops fuel _ a w h1
  · rename_i o e
    rw [e] at h1
    dsimp only at h1
    split
    · rename_i hw
      rw [if_pos hw] at h1
      rcases h1 with h1 | h1
      · exact Oper.wpIn_mono (fun a w h=>any_rf hops fuel _ a w h) (oper_rf (hops o (Array.mem_of_getElem? e)) h1)
      · exact absurd h1.2 hL
    · rename_i hw
      rw [if_neg hw] at h1
      exact ⟨fun _ _=>trivial,any_rf hops fuel _ _ w h1⟩⟩
theorem list_rf:∀ (r:List Oper),(∀ o∈r,isDefer o.op=false)→∀ (a:Act) (w:World),wpList P ops Q r a w→wpListIn (RF l) n P ops Q r a w
 | [],_,_,_,h=>h
 | o::r,hops,a,w,h=>by
  unfold wpList at h
  unfold wpListIn
  split
  · rename_i hw
    rw [if_pos hw] at h
    rcases h with h | h
    · exact Oper.wpIn_mono (fun a w h=>list_rf r (fun o ho=>hops o (List.mem_cons_of_mem _ ho)) a w h) (oper_rf (hops o (List.mem_cons_self ..)) h)
    · exact absurd h.2 hL
  · rename_i hw
    rw [if_neg hw] at h
    exact ⟨fun _ _=>trivial,list_rf r (fun o ho=>hops o (List.mem_cons_of_mem _ ho)) _ w h⟩
end
def postI (l:Option Nat) (nn:Nat) (P:Program) (Q:Exit→Act→World→Prop):List Kf→Exit→Act→World→Prop
 | []=>Q
 | .sq c::r=>Exit.then (c.wpIn (RF l) nn P (postI l nn P Q r)) (postI l nn P Q r)
 | .bl i::r=>Exit.inBlock i (postI l nn P Q r)
 | .lp _::r=>postI l nn P Q r
 | .sc::r=>Exit.noGoto (postI l nn P Q r)
theorem postI_ret {l:Option Nat} {nn:Nat} {P:Program} {Q:Exit→Act→World→Prop} {a:Act} {w:World} (h:Q .ret a w):∀ ks,postI l nn P Q ks .ret a w
 | []=>h
 | .sq _::r=>postI_ret h r
 | .bl _::r=>postI_ret h r
 | .lp _::r=>postI_ret h r
 | .sc::r=>postI_ret h r
theorem postI_out {l:Option Nat} {nn:Nat} {P:Program} {Q:Exit→Act→World→Prop} (h:¬ LetsOut Q):∀ ks,¬ LetsOut (postI l nn P Q ks)
 | []=>h
 | .sq _::r=>postI_out h r
 | .bl _::r=>postI_out h r
 | .lp _::r=>postI_out h r
 | .sc::r=>postI_out h r
def popNl (id:Nat):List Kf→Option (List Kf)
 | []=>none
 | .bl i::r=>bif Nat.beq i id then some r else popNl id r
 | .lp _::_=>none
 | _::r=>popNl id r
theorem postI_exit {l:Option Nat} {nn:Nat} {P:Program} {Q:Exit→Act→World→Prop} {a:Act} {w:World} {i:Nat}:∀ {ks r},popNl i ks=some r→postI l nn P Q r .normal a w→postI l nn P Q ks (.exit i) a w
 | [],_,h,_=>by cases h
 | .sq _::ks,r,h,k=>postI_exit (ks:=ks) (r:=r) h k
 | .lp _::ks,r,h,k=>by cases h
 | .sc::ks,r,h,k=>postI_exit (ks:=ks) (r:=r) h k
 | .bl j::ks,r,h,k=>by
  simp only [popNl,cond_eq_ite,Nat.beq_eq] at h
  simp only [postI,Exit.inBlock]
  split at h
  · rename_i e
    obtain rfl:=Option.some.inj h
    rw [if_pos e.symm]
    exact k
  · rename_i e
    rw [if_neg (Ne.symm e)]
    exact postI_exit (ks:=ks) (r:=r) h k
inductive StopX (P:Program) where
 | ended (b:Bool) (f:Cf P)
 | range (g:Operand) (ps:Array Tmp) (x y:Code) (ks:List Kf) (f:Cf P)
def StopX.cf {P:Program}:StopX P→Cf P
 | .ended _ f=>f
 | .range _ _ _ _ _ f=>f
def endOf:Bool→Exit
 | true=>.ret
 | false=>.normal
def StopX.after {P:Program} (l:Option Nat) (nn:Nat) (Q:Exit→Act→World→Prop) (a:Act) (w:World):StopX P→Prop
 | .ended b _=>Q (endOf b) a w
 | .range g ps x y ks _=>(Code.rangeFunc g ps x y).wpIn (RF l) nn P (postI l nn P Q ks) a w
def runI (P:Program) (m0 n:Nat) (Ns:List (Nat × Nat)):Nat→Option Code→List Kf→Cf P→Option (StopX P)
 | 0,_,_,_=>none
 | m+1,oc,ks,f=>match oc with
  | none=>match ks with
   | []=>some (.ended false f)
   | .sq c::r=>runI P m0 n Ns m (some c) r f
   | .bl _::r=>runI P m0 n Ns m none r f
   | .lp _::_=>none
   | .sc::r=>runI P m0 n Ns m none r f
  | some c=>match c with
   | .skip=>runI P m0 n Ns m none ks f
   | .label _=>runI P m0 n Ns m none ks f
   | .region id ops d=>bif ops.toList.all (fun o=>!isDefer o.op) then (match (bif d then drawS1 P m0 n Ns id ops.toList f else seqS P m0 n ops ops.toList f) with
    | some f'=>runI P m0 n Ns m none ks f'
    | none=>none) else none
   | .seq a b=>runI P m0 n Ns m (some a) (.sq b::ks) f
   | .cond x a b=>match evS idE f.sl x with
    | .bool true=>runI P m0 n Ns m (some a) ks { f with cs:=(fun β=>[(.v (evS β f.sl x),.v (.bool true))])::f.cs }
    | .bool false=>runI P m0 n Ns m (some b) ks { f with cs:=(fun β=>[(.v (evS β f.sl x),.v (.bool false))])::f.cs }
    | _=>none
   | .block id c=>runI P m0 n Ns m (some c) (.bl id::ks) f
   | .exit id=>match popNl id ks with
    | some r=>runI P m0 n Ns m none r f
    | none=>none
   | .rangeFunc g ps x y=>some (.range g ps x y ks f)
   | .ret=>some (.ended true f)
   | _=>none
def toShowI (l:Option Nat) (nn:Nat) (P:Program) (Q:Exit→Act→World→Prop) (oc:Option Code) (ks:List Kf) (a:Act) (w:World):Prop:=match oc with
 | some c=>c.wpIn (RF l) nn P (postI l nn P Q ks) a w
 | none=>postI l nn P Q ks .normal a w
theorem runI_ok {P:Program} {m0 n nn:Nat} {l:Option Nat} {Ns:List (Nat × Nat)} (hm:P.follows .mixedOrders=true):∀ (m:Nat) (oc:Option Code) (ks:List Kf) (f:Cf P) (s:StopX P),runI P m0 n Ns m oc ks f=some s→f.full→(∀ x∈f.cs,x∈s.cf.cs)∧s.cf.full ∧
  (s.cf.good→∀ {B0:Bd} {w0:World} {β:Env} {a:Act} {w:World},Sync P m0 n B0 w0 f β a w→∀ (Q:Exit→Act→World→Prop),¬ LetsOut Q→(∀ β' a' w',(∀ k,k<B0.k→β' k=β k)→Sync P m0 n B0 w0 s.cf β' a' w'→s.after l nn Q a' w')→toShowI l nn P Q oc ks a w):=by
 intro m
 induction m with
 | zero=>intro oc ks f f' h; simp only [runI] at h; cases h
 | succ m ih =>
  intro oc ks f f' h hf
  simp only [runI] at h
  cases oc with
  | none =>
   dsimp only at h
   cases ks with
   | nil =>
    obtain rfl:=Option.some.inj h
    exact ⟨fun _ hx=>hx,hf,fun _ B0 w0 β a w s Q hL hQ=>hQ β a w (fun _ _=>rfl) s⟩
   | cons x r =>
    cases x with
    | sq c=>obtain ⟨i1,i2,i3⟩:=ih _ _ _ _ h hf; exact ⟨i1,i2,fun hg B0 w0 β a w s Q hL hQ=>i3 hg s Q hL hQ⟩
    | bl j=>obtain ⟨i1,i2,i3⟩:=ih _ _ _ _ h hf; exact ⟨i1,i2,fun hg B0 w0 β a w s Q hL hQ=>i3 hg s Q hL hQ⟩
    | lp c=>cases h
    | sc=>obtain ⟨i1,i2,i3⟩:=ih _ _ _ _ h hf; exact ⟨i1,i2,fun hg B0 w0 β a w s Q hL hQ=>i3 hg s Q hL hQ⟩
  | some c =>
   cases c with
   | skip=>obtain ⟨i1,i2,i3⟩:=ih _ _ _ _ h hf; exact ⟨i1,i2,fun hg B0 w0 β a w s Q hL hQ=>wpIn_skip (i3 hg s Q hL hQ)⟩
   | label l=>obtain ⟨i1,i2,i3⟩:=ih _ _ _ _ h hf; exact ⟨i1,i2,fun hg B0 w0 β a w s Q hL hQ=>wpIn_label (i3 hg s Q hL hQ)⟩
   | region rid ops d =>
    dsimp only at h
    rw [cond_eq_ite] at h
    split at h
    · rename_i hdf
      have hdf2:∀ o∈ops.toList,isDefer o.op=false:=fun o ho=>by
       have:=List.all_eq_true.1 hdf o ho
       simpa using this
      split at h
      · rename_i f1 h1
        cases d with
        | true =>
         simp only [cond_true] at h1
         have hf1:=drawS1_full h1 hf
         obtain ⟨i1,i2,i3⟩:=ih _ _ _ _ h hf1
         obtain ⟨j1,j2⟩:=drawS1_ok hm h1 (fun k hk=>(hf.1 k).1 hk) hf.2
         refine ⟨fun x hx=>i1 x (j1 x hx),i2,fun hg B0 w0 β a w s Q hL hQ=>?_⟩
         have:=j2 (fun β x hx=>hg β x (i1 x hx)) s (postI l nn P Q ks) fun β' a' w' e s'=>i3 hg s' Q hL fun β2 a2 w2 e2 s2=>hQ β2 a2 w2 (fun k hk=>(e2 k hk).trans (e k hk)) s2
         unfold RegAny at this
         simp only [Array.toArray_toList] at this
         exact wpIn_region_any hm (any_rf (postI_out hL ks) (fun o ho=>hdf2 o (by simpa using ho)) _ _ _ _ this)
        | false =>
         simp only [cond_false] at h1
         have hf1:=seqS_full h1 hf
         obtain ⟨i1,i2,i3⟩:=ih _ _ _ _ h hf1
         obtain ⟨j1,j2⟩:=seqS_ok h1
         exact ⟨fun x hx=>i1 x (j1 x hx),i2,fun hg B0 w0 β a w s Q hL hQ=>wpIn_region_list (list_rf (postI_out hL ks) _ hdf2 _ _ (j2 (fun β x hx=>hg β x (i1 x hx)) s (postI l nn P Q ks) fun β' a' w' e s'=>i3 hg s' Q hL fun β2 a2 w2 e2 s2=>hQ β2 a2 w2 (fun k hk=>(e2 k hk).trans (e k hk)) s2))⟩
      · cases h
    · cases h
   | seq c d=>obtain ⟨i1,i2,i3⟩:=ih _ _ _ _ h hf; exact ⟨i1,i2,fun hg B0 w0 β a w s Q hL hQ=>wpIn_seq (i3 hg s Q hL hQ)⟩
   | cond x c d =>
    dsimp only at h
    split at h
    · obtain ⟨i1,i2,i3⟩:=ih _ _ _ _ h hf
      refine ⟨fun y hy=>i1 y (List.mem_cons_of_mem _ hy),i2,fun hg B0 w0 β a w s Q hL hQ=>?_⟩
      obtain ⟨e,_⟩:=Eqs.cons_ok (hg β _ (i1 _ (List.mem_cons_self ..)))
      injection e with e
      exact wpIn_cond_true (by rw [s.sl.eval]; exact e) (i3 hg (s.cs _) Q hL hQ)
    · obtain ⟨i1,i2,i3⟩:=ih _ _ _ _ h hf
      refine ⟨fun y hy=>i1 y (List.mem_cons_of_mem _ hy),i2,fun hg B0 w0 β a w s Q hL hQ=>?_⟩
      obtain ⟨e,_⟩:=Eqs.cons_ok (hg β _ (i1 _ (List.mem_cons_self ..)))
      injection e with e
      exact wpIn_cond_false (by rw [s.sl.eval]; exact e) (i3 hg (s.cs _) Q hL hQ)
    · cases h
   | block j c=>obtain ⟨i1,i2,i3⟩:=ih _ _ _ _ h hf; exact ⟨i1,i2,fun hg B0 w0 β a w s Q hL hQ=>wpIn_block (i3 hg s Q hL hQ)⟩
   | exit j =>
    dsimp only at h
    split at h
    · rename_i r hr
      obtain ⟨i1,i2,i3⟩:=ih _ _ _ _ h hf
      exact ⟨i1,i2,fun hg B0 w0 β a w s Q hL hQ=>wpIn_exit (postI_exit hr (i3 hg s Q hL hQ))⟩
    · cases h
   | rangeFunc g ps x y =>
    obtain rfl:=Option.some.inj h
    exact ⟨fun _ hx=>hx,hf,fun _ B0 w0 β a w s Q hL hQ=>hQ β a w (fun _ _=>rfl) s⟩
   | ret =>
    obtain rfl:=Option.some.inj h
    exact ⟨fun _ hx=>hx,hf,fun _ B0 w0 β a w s Q hL hQ=>wpIn_ret (postI_ret (hQ β a w (fun _ _=>rfl) s) ks)⟩
   | _=>cases h
def bdR (k:Nat) (w:World) (m0:Nat) (ex:Nat→Bool) (obj:Nat→Option Ob) (β:Env) (df:List Deferred):Bd :=
 ⟨w.heap.size,fun c=>∃ i x,ex i=true∧m0≤i∧obj i=some x∧x.mine=true∧c=(β i).b,k,fun c=>∃ k,ex k=true∧m0≤k∧(β k).F c,df⟩
section
variable {B:Bd} {m0:Nat} {w0:World} {ex:Nat→Bool} {obj:Nat→Option Ob} {β:Env} {w:World} (h:Good B m0 w0 ex obj β w)
include h
theorem Good.restart (kk:Nat) (df:List Deferred):Good (bdR kk w m0 ex obj β df) m0 w ex obj β w :=
 ⟨Keep.refl _ _,Nat.le_refl _,h.hold,h.lt,h.ne,fun k x hk hm hx hmi=>.inr ⟨k,x,hk,hm,hx,hmi,rfl⟩,fun k hk hm c hc=>.inl (.inr ⟨k,hk,hm,hc⟩),h.ar,h.al,h.alb,h.ord⟩
theorem Good.back_has {kk:Nat} {df:List Deferred} {c:Nat} (hc:(bdR kk w m0 ex obj β df).has c):B.has c:=by
 rcases hc with hc | ⟨k,x,hk,hm,hx,hmi,rfl⟩
 · exact .inl (Nat.le_trans h.le hc)
 · exact h.lowm k x hk hm hx hmi
theorem Keep.back {kk:Nat} {df:List Deferred} {w':World} (k:Keep (bdR kk w m0 ex obj β df) w w'):Keep B w0 w' :=
 h.bel.trans ⟨k.os,k.tape,k.output,k.size,fun i hi hs=>k.block i (Nat.lt_of_lt_of_le hi h.le) fun hc=>(h.back_has (.inr hc)).elim (fun a=>absurd hi (Nat.not_lt.2 a)) hs⟩
theorem Good.back {kk:Nat} {df:List Deferred} {ex':Nat→Bool} {obj':Nat→Option Ob} {β':Env} {w':World} (h':Good (bdR kk w m0 ex obj β df) m0 w ex' obj' β' w') (hβ:∀ i,i<m0→β' i=β i):Good B m0 w0 ex' obj' β' w':=by
 refine ⟨Keep.back h h'.bel,Nat.le_trans h.le h'.bel.size,h'.hold,h'.lt,h'.ne,fun k x hk hm hx hmi=>h.back_has (h'.lowm k x hk hm hx hmi),fun k hk hm c hc=>?_,h'.ar,h'.al,h'.alb,h'.ord⟩
 rcases h'.fr k hk hm c hc with (h1 | ⟨j,h1,h2,h3⟩) | h1
 · exact .inl (.inl (h.back_has h1))
 · exact (h.fr j h1 h2 c h3).imp id fun ⟨i,i1,i2⟩=>⟨i,i1,by rw [hβ i i1]; exact i2⟩
 · exact .inr h1
theorem Good.side {b o n:Nat} {w':World} (hw:NW w b) (ht:Touch w w' b o n) (hB:B.has b) (hF:∀ k x,ex k=true→obj k=some x→x≠.dead→¬ (β k).F b):Good B m0 w0 ex obj β w':=by
 refine ⟨h.bel.touch ht hB h.le,Nat.le_trans h.le ht.size,?_,fun k hk c hc=>Nat.lt_of_lt_of_le (h.lt k hk c hc) ht.size,h.ne,h.lowm,h.fr,h.ar,h.al,h.alb,h.ord⟩
 intro k x hk hx
 refine ⟨?_,(h.hold k x hk hx).2⟩
 have hh:=(h.hold k x hk hx).1
 by_cases hdd:x=.dead
 · rw [hdd]; exact trivial
 have hne:=hF k x hk hx hdd
 have hblk:(β k).one→w'.heap[(β k).b]?=w.heap[(β k).b]?:=fun h1=>ht.block _ (h.lt k hk _ ((h1.1 _).2 rfl)) fun e=>hne ((h1.1 _).2 e.symm)
 cases x with
 | box cs' t' =>
  simp only [Ob.holds] at hh ⊢
  rw [hblk hh.1]
  exact hh
 | row cs' t' n' sz' =>
  simp only [Ob.holds] at hh ⊢
  rw [hblk hh.1]
  exact hh
 | ow D u=>exact ⟨⟨hh.1.1,hh.1.2.1,by rw [ht.block _ (h.lt k hk _ hh.1.1) (fun e=>hne (by rw [← e]; exact hh.1.1))]; exact hh.1.2.2⟩,D.st.touch w _ _ _ _ _ 0 hh.2 hw ht hne⟩
 | th D=>exact D.st.touch w _ _ _ _ _ 0 hh hw ht hne
 | al r D=>exact D.st.touch w _ _ _ _ _ 0 hh hw ht hne
 | pl n=>exact ⟨hh.1,Slot.touch hh.2 ht⟩
 | dead=>exact trivial
end
theorem grown_touch {w w':World} {r:Nat} {o:Obj} (g:w.grownBy w' (some r)) (h:w.heap[r]?=some o) (hc:o.isCells=false):NW w r∧Touch w w' r 0 0 :=
 ⟨fun cs fr e=>(by rw [h] at e; cases e; cases hc),⟨g.os,g.tape,g.output,g.size,fun k hk hne=>g.block k hk (fun e=>hne (Option.some.inj e)),fun cs t fr e=>(by rw [h] at e; cases e; cases hc)⟩⟩
def obClB:Ob→Bool
 | .th t=>t.cl
 | .al _ t=>t.cl
 | .ow _ _=>false
 | _=>true
theorem ob_cells {x:Ob} (h:obClB x=true) (hd:x≠.dead) {β:Env} {w:World} {g:Pl} (hh:x.holds β w g) (c:Nat) (hc:g.F c):∃ cs t fr,w.heap[c]?=some (.cells cs t fr):=by
 cases x with
 | box cs t=>rw [(hh.1.1 c).1 hc]; exact ⟨_,_,_,hh.2⟩
 | row cs t n sz=>rw [(hh.1.1 c).1 hc]; exact ⟨_,_,_,hh.2.choose_spec.1⟩
 | th t=>exact t.clok h w g hh c hc
 | al r t=>exact t.clok h w g hh c hc
 | pl n=>rw [(hh.1.1 c).1 hc]; obtain ⟨cs,t,h1,_⟩:=hh.2; exact ⟨_,_,_,h1⟩
 | ow D t=>cases h
 | dead=>exact absurd rfl hd
theorem Good.grown {B:Bd} {m0:Nat} {w0:World} {ex:Nat→Bool} {obj:Nat→Option Ob} {β:Env} {w w':World} (h:Good B m0 w0 ex obj β w) (hC:∀ k x,ex k=true→obj k=some x→obClB x=true) {row:Option Nat} (g:w.grownBy w' row) (hr:∀ r,row=some r→B.n≤r∧∃ o:Obj,w.heap[r]?=some o∧o.isCells=false):Good B m0 w0 ex obj β w':=by
 cases row with
 | none=>exact h.on ⟨g.os,g.tape,g.output,g.size,fun k hk=>g.block k hk (fun e=>by cases e)⟩
 | some r =>
  obtain ⟨h1,o,h2,h3⟩:=hr r rfl
  obtain ⟨t1,t2⟩:=grown_touch g h2 h3
  refine h.side t1 t2 (.inl h1) fun k x hk hx hd hF=>?_
  obtain ⟨cs,t,fr,k1⟩:=ob_cells (hC k x hk hx) hd (h.hold k x hk hx).1 r hF
  rw [h2] at k1
  cases k1
  cases h3
def postR (B:Nat) (I Ix:World→Prop) (W:World):Exit→Act→World→Prop
 | .normal,_,W'=>KeepsFrom B W W'∧I W'
 | .ret,_,W'=>KeepsFrom B W W'∧Ix W'
 | _,_,_=>False
theorem postR_out {B:Nat} {I Ix:World→Prop} {W:World}:¬ LetsOut (postR B I Ix W):=fun ⟨_,_,h⟩=>h
theorem rf_law {P:Program} {n:Nat} {g:Operand} {ps:Array Tmp} {assign body:Code} {Q:Exit→Act→World→Prop} {a:Act} {w:World}
  {gf:Nat} {lb:Array Value} (hg:a.eval g=.func (.func gf) #[] lb) (eg:∀ args w,(callFunc gf args).run P w=.ok (.enter gf args) w)
  (N:Nat) (encs:Nat→Array Value) (I:Nat→World→Prop) (hps:∀ k W,I k W→k<N→(encs k).size=ps.size) (Ix:World→Prop)
  (hI:∀ k W W' row,I k W→W.grownBy W' row→(∀ r,row=some r→w.heap.size≤r∧∃ o:Obj,W.heap[r]?=some o∧o.isCells=false)→I k W')
  (hIx:∀ W W' row,Ix W→W.grownBy W' row→(∀ r,row=some r→w.heap.size≤r∧∃ o:Obj,W.heap[r]?=some o∧o.isCells=false)→Ix W')
  (h0:I 0 w)
  (hiter:∀ (l:Nat) (J:Nat→World→Prop) (Jx:World→Prop) (W:World),(∀ k W,J k W→I k W) →
   (∀ k W1,J k W1→k<N→YieldAt Fence.wide (n-1-1) P l (encs k) W1 fun e W'=>(e=.returned (.bool true)∧J (k+1) W')∨(e=.returned (.bool false)∧Jx W'))→J 0 W →
   CallsIn Fence.wide (n-1) P gf (#[.func (.yield l) #[] #[]]++lb) W fun e W'=>(∃ v,e=.returned v)∧(J N W'∨Jx W'))
  (hround:∀ (l k:Nat) (W:World),w.heap.size≤l→(∃ o:Obj,W.heap[l]?=some o∧o.isCells=false)→I k W→k<N →
   assign.wpIn (RF (some l)) (n-1-1) P (Exit.then (fun a1 W1=>KeepsFrom w.heap.size W W1∧∀ W2,W1.grownBy W2 (some l)→body.wpIn (RF (some l)) (n-1-1) P (postR w.heap.size (I (k+1)) Ix W2) a1 W2) (fun _ _ _=>False))
    { tmps:=(ps.zip (encs k)).foldl (fun t (p,v)=>t.setIfInBounds p v) a.tmps,defers:=[] } W)
  (hdone:∀ (D:Nat) (W:World),w.heap.size≤D→I N W→W.heap[D]?=some (.deferred (some []))→Q .normal { a with defers:={ target:=.collected D,args:=#[] }::a.defers } W)
  (hstop:∀ (D:Nat) (W:World),w.heap.size≤D→Ix W→W.heap[D]?=some (.deferred (some []))→Q .ret { a with defers:={ target:=.collected D,args:=#[] }::a.defers } W) :
  (Code.rangeFunc g ps assign body).wpIn Fence.wide n P Q a w:=by
 refine wpIn_rangeFunc ?_
 intro fn hfn
 obtain ⟨rec,hrec⟩:∃ rec:LoopState→Option Code→Loop,rec=fun st pe=>{ state:=st,pending:=pe,fn,tmps:=a.tmps,params:=ps,assign,body,defers:=w.heap.size }:=⟨_,rfl⟩
 obtain ⟨W1,hW1⟩:∃ W1,(w.alloc (.deferred (some []))).alloc (.loop (rec .ready none))=W1:=⟨_,rfl⟩
 have hL1:W1.heap[w.heap.size+1]?=some (.loop (rec .ready none)):=by
  rw [← hW1]; have:=World.alloc_heap_new (w.alloc (.deferred (some []))) (.loop (rec .ready none)); rwa [World.size_alloc] at this
 have hK1:W1.heap[w.heap.size]?=some (.deferred (some [])):=by
  rw [← hW1]; exact (Below.heap_alloc _ _ _ (by simp)).trans (World.alloc_heap_new w _)
 have nor:∀ {X:World} (r:Nat),(none:Option Nat)=some r→w.heap.size≤r∧∃ o:Obj,X.heap[r]?=some o∧o.isCells=false:=fun r e=>by cases e
 have hI1:I 0 W1:=by rw [← hW1]; exact hI _ _ _ none (hI _ _ _ none h0 (World.grownBy_alloc w _ none) nor) (World.grownBy_alloc _ _ none) nor
 refine ⟨w.heap.size+1,[{ target:=.collected w.heap.size,args:=#[] }],W1,{ target:=.fn (.func gf) lb,args:=#[.func (.yield (w.heap.size+1)) #[] #[]] },W1,gf,
  #[.func (.yield (w.heap.size+1)) #[] #[]]++lb,W1,?_,?_,?_,?_,fun e=>(by simp [Fence.wide] at e),?_⟩
 · rw [← hW1,hrec]; exact run_enterLoop_outer _ _ _ _ _
 · simp only [resolve,hg]
   simp [go_sem]
 · intro f' hf'; trivial
 · simp [invoke,go_sem,eg]
 · refine (hiter (w.heap.size+1)
    (fun k W=>I k W∧W.heap[w.heap.size+1]?=some (.loop (rec .ready none))∧W.heap[w.heap.size]?=some (.deferred (some [])))
    (fun W=>Ix W∧W.heap[w.heap.size+1]?=some (.loop (rec .done (some .ret)))∧W.heap[w.heap.size]?=some (.deferred (some [])))
    W1 (fun k W h=>h.1) ?_ ⟨hI1,hL1,hK1⟩).mono ?_
   · rintro k W ⟨hi,hl,hk⟩ hlen
     have hy:=run_yield (P:=P) (args:=encs k) hl (by rw [hrec]; exact hps k W hi hlen)
     rw [hrec] at hy
     refine ⟨fn,_,assign,body,hy,roundIn_of_wpIn hfn ?_⟩
     refine wpIn_mono (hround (w.heap.size+1) k W (by omega) ⟨_,hl,rfl⟩ hi hlen) ?_
     rintro e a1 W2 h2
     cases e with
     | normal =>
      obtain ⟨hk2,h2⟩:=h2
      have hl2:=hk2.same _ _ (by omega) hl rfl
      have hd2:=hk2.same _ _ (Nat.le_refl _) hk rfl
      have hlt:w.heap.size+1<W2.heap.size:=(Array.getElem?_eq_some_iff.1 hl2).1
      refine ⟨_,run_beginRound hl2 (by rw [hrec]),?_⟩
      have hl3:(W2.putObj (w.heap.size+1) (.loop { rec .ready none with state:=.busy })).heap[w.heap.size+1]?=some (.loop { rec .ready none with state:=.busy }):=World.putObj_heap_same hlt
      have hd3:(W2.putObj (w.heap.size+1) (.loop { rec .ready none with state:=.busy })).heap[w.heap.size]?=some (.deferred (some [])):=(World.putObj_heap_other (by omega)).trans hd2
      refine wpIn_mono (h2 _ (grownBy_putObj' W2 _ _)) ?_
      have fin:∀ (jump:Option Code) (W3:World),KeepsFrom w.heap.size (W2.putObj (w.heap.size+1) (.loop { rec .ready none with state:=.busy })) W3 →
        (Instr.endRound (w.heap.size+1) jump).run P W3=.ok (.bool jump.isNone) (W3.putObj (w.heap.size+1) (.loop (rec (if jump.isNone then .ready else .done) jump))) ∧
        W3.heap[w.heap.size+1]?=some (.loop { rec .ready none with state:=.busy }) ∧
        (W3.putObj (w.heap.size+1) (.loop (rec (if jump.isNone then .ready else .done) jump))).heap[w.heap.size+1]?=some (.loop (rec (if jump.isNone then .ready else .done) jump)) ∧
        (W3.putObj (w.heap.size+1) (.loop (rec (if jump.isNone then .ready else .done) jump))).heap[w.heap.size]?=some (.deferred (some [])):=fun jump W3 hk3=>by
       have hl4:=hk3.same _ _ (by omega) hl3 rfl
       have:=run_endRound (P:=P) jump hl4
       rw [hrec] at this ⊢
       exact ⟨this,by rw [hrec] at hl4; exact hl4,World.putObj_heap_same (Array.getElem?_eq_some_iff.1 hl4).1,(World.putObj_heap_other (by omega)).trans (hk3.same _ _ (Nat.le_refl _) hd3 rfl)⟩
      have one:∀ {X:World} {o:Obj},X.heap[w.heap.size+1]?=some o→o.isCells=false→∀ r,some (w.heap.size+1)=some r→w.heap.size≤r∧∃ o:Obj,X.heap[r]?=some o∧o.isCells=false:=fun h1 h2 r e=>by cases e; exact ⟨by omega,_,h1,h2⟩
      rintro e a3 W3 hp
      cases e with
      | normal =>
       obtain ⟨hk3,hi3⟩:=hp
       obtain ⟨hr,hl4,hl5,hk5⟩:=fin none W3 hk3
       exact ⟨_,_,hr,.inl ⟨rfl,hI _ _ _ _ hi3 (grownBy_putObj' W3 _ _) (one hl4 rfl),hl5,hk5⟩⟩
      | ret =>
       obtain ⟨hk3,hi3⟩:=hp
       obtain ⟨hr,hl4,hl5,hk5⟩:=fin (some .ret) W3 hk3
       exact ⟨_,_,hr,.inr ⟨rfl,hIx _ _ _ hi3 (grownBy_putObj' W3 _ _) (one hl4 rfl),hl5,hk5⟩⟩
      | exit id=>exact hp.elim
      | goto t=>exact hp.elim
      | panic ch=>exact hp.elim
      | outgrown=>exact hp.elim
     | exit id=>exact h2.elim
     | ret=>exact h2.elim
     | goto t=>exact h2.elim
     | panic ch=>exact h2.elim
     | outgrown=>exact h2.elim
   · rintro e W2 ⟨⟨v,rfl⟩,(⟨hi,hl,hk⟩ | ⟨hi,hl,hk⟩)⟩
     · refine ⟨none,_,by have:=run_endLoop (P:=P) hl (by rw [hrec]; simp); rw [hrec] at this; exact this,hdone _ _ (Nat.le_refl _) (hI _ _ _ _ hi (grownBy_putObj' W2 _ _) fun r e=>?_) ((World.putObj_heap_other (by omega)).trans hk)⟩
       cases e; exact ⟨by omega,_,hl,rfl⟩
     · refine ⟨some .ret,_,by have:=run_endLoop (P:=P) hl (by rw [hrec]; simp); rw [hrec] at this; exact this,wpIn_ret (hstop _ _ (Nat.le_refl _) (hIx _ _ _ hi (grownBy_putObj' W2 _ _) fun r e=>?_) ((World.putObj_heap_other (by omega)).trans hk))⟩
       cases e; exact ⟨by omega,_,hl,rfl⟩
def setPs:List (Nat × SV)→List Nat→List SV→List (Nat × SV)
 | sl,p::ps,x::xs=>setPs (putS sl (some p) x) ps xs
 | sl,_,_=>sl
def roundS (P:Program) (m0 n:Nat) (Ns:List (Nat × Nat)) (m:Nat) (ps:Array Tmp) (x y:Code) (sl0:List (Nat × SV)) (v:List SV) (f:Cf P):Option (Bool × Cf P) :=
 bif Nat.beq v.length ps.size&&(v.all (SV.of fun _=>false)&&ps.toList.all (fun p=>Nat.blt p n)) then
  match runI P m0 n Ns m (some x) [] { f with sl:=setPs sl0 ps.toList v } with
  | some (.ended false f1)=>bif f1.ob.all obClB then (match runI P m0 n Ns m (some y) [] f1 with
   | some (.ended b f2)=>some (b,{ f2 with sl:=sl0 })
   | _=>none) else none
  | _=>none
 else none
theorem all_cl {f:List Ob} (h:f.all obClB=true) {q:Nat→Bool}:∀ k x,q k=true→f[k]?=some x→obClB x=true:=fun k x _ hx=>List.all_eq_true.1 h x (List.mem_of_getElem? hx)
theorem keeps_from {k m0 B:Nat} {w w' w0:World} {B0:Bd} {ex:Nat→Bool} {obj:Nat→Option Ob} {β:Env} {df:List Deferred} (hg:Good B0 m0 w0 ex obj β w) (hC:∀ k x,ex k=true→obj k=some x→obClB x=true) (h:Keep (bdR k w m0 ex obj β df) w w'):KeepsFrom B w w' :=
 ⟨h.size,fun i o _ hi ho=>(h.block i (heap_lt hi) fun ⟨j,x,h1,h2,h3,h4,h5⟩=>by
  have hh:=(hg.hold j x h1 h3).1
  have hc:=hC j x h1 h3
  subst h5
  cases x with
  | box cs t=>rw [hh.2] at hi; cases hi; cases ho
  | row cs t n sz=>rw [hh.2.choose_spec.1] at hi; cases hi; cases ho
  | pl n=>obtain ⟨cs,t,k1,_⟩:=hh.2; rw [k1] at hi; cases hi; cases ho
  | ow D t=>cases hc
  | th t=>cases h4
  | al r t=>cases h4
  | dead=>cases h4).trans hi⟩
theorem setPs_ok {β:Env} {n:Nat}:∀ (ps:List Nat) (v:List SV) (sl:List (Nat × SV)) (a:Act),ps.length=v.length→ps.all (fun p=>Nat.blt p n)=true→SlOk β a sl n →
  SlOk β { a with tmps:=(ps.zip (v.map (SV.den β))).foldl (fun t (p,v)=>t.setIfInBounds p v) a.tmps } (setPs sl ps v) n
 | [],[],sl,a,_,_,h=>h
 | [],_::_,_,_,h,_,_=>by simp at h
 | _::_,[],_,_,h,_,_=>by simp at h
 | p::ps,x::v,sl,a,hl,hp,h=>by
  rw [List.all_cons,Bool.and_eq_true] at hp
  have h1:=h.put (d:=some p) hp.1 x rfl
  exact setPs_ok ps v _ _ (by simpa using hl) hp.2 h1
theorem setPs_of {q:Nat→Bool}:∀ (ps:List Nat) (v:List SV) (sl:List (Nat × SV)),v.all (SV.of fun _=>false)=true→SlOf q sl→SlOf q (setPs sl ps v)
 | [],_,_,_,h=>h
 | _::_,[],_,_,h=>h
 | p::ps,x::v,sl,hv,h=>by
  rw [List.all_cons,Bool.and_eq_true] at hv
  exact setPs_of ps v _ hv.2 (h.put _ (SV.of_mono (fun k hk=>by cases hk) _ hv.1))
theorem roundS_ok {P:Program} {m0 n nn l:Nat} {Ns:List (Nat × Nat)} {m:Nat} {ps:Array Tmp} {x y:Code} {sl0:List (Nat × SV)} {v:List SV} {f f':Cf P} {b:Bool} (hm:P.follows .mixedOrders=true) (h:roundS P m0 n Ns m ps x y sl0 v f=some (b,f')) (hf:f.full) (hsl:f.sl=sl0) :
  (∀ z∈f.cs,z∈f'.cs)∧f'.full∧f'.sl=sl0∧v.length=ps.size∧v.all (SV.of fun _=>false)=true∧(f'.good→f.ob.all obClB=true→∀ {B0:Bd} {w0:World} {β:Env} {a:Act} {W:World},Sync P m0 n B0 w0 f β a W→B0.df=[]→B0.k≤f.ob.length→∀ (S:Nat),(S≤l∧B0.n≤l)→(∃ o:Obj,W.heap[l]?=some o∧o.isCells=false)→∀ (I Ix:World→Prop),
   (∀ β' W',(∀ i,i<f.ob.length→β' i=β i)→Sync P m0 n B0 w0 f' β' a W'→(b=false→I W')∧(b=true→Ix W')) →
   x.wpIn (RF (some l)) nn P (Exit.then (fun a1 W1=>KeepsFrom S W W1∧∀ W2,W1.grownBy W2 (some l)→y.wpIn (RF (some l)) nn P (postR S I Ix W2) a1 W2) (fun _ _ _=>False))
    { tmps:=(ps.zip (v.map (SV.den β)).toArray).foldl (fun t (p,v)=>t.setIfInBounds p v) a.tmps,defers:=[] } W):=by
 unfold roundS at h
 rw [cond_eq_ite] at h
 split at h
 · rename_i hb
   rw [Bool.and_eq_true,Bool.and_eq_true,Nat.beq_eq] at hb
   obtain ⟨hb1,hb2,hb3⟩:=hb
   split at h
   · rename_i f1 hr1
     rw [cond_eq_ite] at h
     split at h
     · rename_i hc1
       split at h
       · rename_i b2 f2 hr2
         injection h with h
         injection h with e1 e2
         subst e1 e2
         obtain ⟨i1,i2,i3⟩:=runI_ok (l:=some l) (nn:=nn) hm _ _ _ _ _ hr1 (show Cf.full { f with sl:=setPs sl0 ps.toList v } from hf)
         obtain ⟨j1,j2,j3⟩:=runI_ok (l:=some l) (nn:=nn) hm _ _ _ _ _ hr2 i2
         refine ⟨fun z hz=>j1 z (i1 z hz),j2,rfl,hb1,hb2,fun hg hcl B0 w0 β a W s hdf hk S hS hl I Ix hI=>?_⟩
         have g1:f1.good:=fun β z hz=>hg β z (j1 z hz)
         have s0:Sync P m0 n (bdR f.ob.length W m0 f.q (fun k=>f.ob[k]?) β []) W { f with sl:=setPs sl0 ps.toList v } β { tmps:=(ps.zip (v.map (SV.den β)).toArray).foldl (fun t (p,v)=>t.setIfInBounds p v) a.tmps,defers:=[] } W:=by
          refine ⟨s.good.restart _ [],s.q,?_,?_,⟨s.m0.1,Nat.le_refl _⟩,rfl,s.uq⟩
          · have:=setPs_ok (β:=β) (n:=n) ps.toList v sl0 { tmps:=a.tmps,defers:=[] } (by rw [hb1]; simp) hb3 (by rw [← hsl]; exact ⟨s.sl.1,s.sl.2⟩)
            rw [← Array.foldl_toList,Array.toList_zip]
            exact this
          · exact setPs_of _ _ _ hb2 (by rw [← hsl]; exact s.of)
         refine i3 g1 s0 _ (fun ⟨_,_,h⟩=>h.elim) fun β1 a1 W1 e1 s1=>?_
         have hkf:KeepsFrom S W W1:=keeps_from s.good (all_cl hcl) s1.good.bel
         refine ⟨hkf,fun W2 hgr=>?_⟩
         obtain ⟨o,ho1,ho2⟩:=hl
         have ho3:=hkf.same l o hS.1 ho1 ho2
         have hlt:l<W.heap.size:=heap_lt ho1
         have gb:=Good.back s.good s1.good fun i hi=>e1 i (Nat.lt_of_lt_of_le hi s.m0.1)
         have g2:Good B0 m0 w0 f1.q (fun k=>f1.ob[k]?) β1 W2:=gb.grown (all_cl hc1) hgr fun r e=>by cases e; exact ⟨hS.2,o,ho3,ho2⟩
         have hlen1:f.ob.length≤f1.ob.length:=s1.m0.2
         have s2:Sync P m0 n (bdR f1.ob.length W2 m0 f1.q (fun k=>f1.ob[k]?) β1 []) W2 f1 β1 a1 W2:=⟨g2.restart _ [],s1.q,s1.sl,s1.of,⟨s1.m0.1,Nat.le_refl _⟩,s1.defers,s1.uq⟩
         refine j3 hg s2 _ postR_out fun β2 a2 W3 e2 s3=>?_
         have hkf2:KeepsFrom S W2 W3:=keeps_from g2 (all_cl hc1) s3.good.bel
         have gb2:=Good.back g2 s3.good fun i hi=>e2 i (Nat.lt_of_lt_of_le hi s1.m0.1)
         have hlen2:f1.ob.length≤f2.ob.length:=s3.m0.2
         have he:∀ i,i<f.ob.length→β2 i=β i:=fun i hi=>(e2 i (Nat.lt_of_lt_of_le hi hlen1)).trans (e1 i hi)
         have sE:Sync P m0 n B0 w0 { f2 with sl:=sl0 } β2 a W3:=by
          refine ⟨gb2,s3.q,?_,fun t=>?_,⟨s3.m0.1,by show B0.k≤f2.ob.length; omega⟩,s.defers,s3.uq⟩
          · have:=s.sl.congr (β':=β2) s.of fun k hk=>(he k ((s.q k).1 hk)).symm
            rw [hsl] at this
            exact this
          · have:=s.of t
            rw [hsl] at this
            exact SV.of_mono (fun k hk=>(s3.q k).2 (by have:=(s.q k).1 hk; show k<f2.ob.length; omega)) _ this
         obtain ⟨k1,k2⟩:=hI β2 W3 he sE
         cases b2 with
         | false=>exact ⟨hkf2,k1 rfl⟩
         | true=>exact ⟨hkf2,k2 rfl⟩
       · cases h
     · cases h
   · cases h
 · cases h
end Go.Proofs.YtbepimnlleilfaaGreat.Y
end
section
namespace Go.Proofs.YtbepimnlleilfaaGreat
open Go Go.RowKit Go.Shelf
attribute [local go_sem] Oper.semAt_some
theorem bw_load {n:Nat} {P:Program} {T:TypeId} {ops:Array Oper} {rest:List Oper} {o:Oper} {a:Act} {w:World} {Q:Exit→Act→World→Prop} (hgd:o.guard=none) (x:Operand) (ho:o.op=.load T x) (p v:Value)
  (hx:a.eval x=p) (hl:(Instr.loadAt T p).run P w=.ok v w) (h:wpListIn Fence.wide n P ops Q rest (a.put o.dst v) w):wpListIn Fence.wide n P ops Q (o::rest) a w:=by
 refine wpListIn_plain hgd fun K hK=>⟨fun _ _=>trivial,?_⟩
 rw [show Fence.wide.round=none from rfl,Oper.semAt_none]
 unfold execOp
 simp only [ho,hx,Sem.run_bind,hl,Result.andThen_ok]
 exact hK _ _ h
end Go.Proofs.YtbepimnlleilfaaGreat
end
section
namespace Go.Proofs.YtbepimnlleilfaaGreat
open Go.Proofs.YtbepimnlleilfaaGreat.Y
open Go Go.RowKit
set_option maxRecDepth 100000
abbrev svI (n:Int):SC:=.c (.b (.v (.int .i64 n)))
theorem sz_lit1 {n:Int} (h:n.natAbs<256):Fit (Rat.divInt n 1):=(Sz.small h).fit (by decide)
theorem fit_int {n m:Int} (h:n.natAbs<256) (k:m.natAbs<256):FitG (gint n m):=⟨sz_lit1 h,sz_lit1 k⟩
def mV (a a' b b' c c' d d':R4) (t:Bool):Array Value:=#[.bool a.b,.string a.s,.bool a.c,.string a.t,.bool a'.b,.string a'.s,.bool a'.c,.string a'.t,.bool b.b,.string b.s,.bool b.c,.string b.t,.bool b'.b,.string b'.s,.bool b'.c,.string b'.t,
 .bool c.b,.string c.s,.bool c.c,.string c.t,.bool c'.b,.string c'.s,.bool c'.c,.string c'.t,.bool d.b,.string d.s,.bool d.c,.string d.t,.bool d'.b,.string d'.s,.bool d'.c,.string d'.t,.bool t]
def gV (a a':R4):Array Value:=#[.bool a.b,.string a.s,.bool a.c,.string a.t,.bool a'.b,.string a'.s,.bool a'.c,.string a'.t]
def geq (x y x' y':R4):Bool:=x.eq x'&&(y.eq y'&&true)
theorem eqM {w:World} (n:Nat) (a a' b b' c c' d d':R4) (t:Bool) (p p' q q' r r' s s':R4) (u:Bool):(Op.equalIn (n+5) 48 (.agg (mV a a' b b' c c' d d' t)) (.agg (mV p p' q q' r r' s s' u))).run Tryz.prog w=.ok (geq a a' p p'&&(geq b b' q q'&&(geq c c' r r'&&(geq d d' s s'&&((t==u)&&true))))) w:=by
 unfold mV
 rw [run_equalIn_agg _ _ _ _ _ (by kernel_rfl) (by kernel_rfl)]
 refine run_eqF_cons (a:=.agg (gV a a')) (b:=.agg (gV p p')) (by kernel_rfl) (by kernel_rfl) (by kernel_rfl) (eqG n _ _ _ _) ?_
 refine run_eqF_cons (a:=.agg (gV b b')) (b:=.agg (gV q q')) (by kernel_rfl) (by kernel_rfl) (by kernel_rfl) (eqG n _ _ _ _) ?_
 refine run_eqF_cons (a:=.agg (gV c c')) (b:=.agg (gV r r')) (by kernel_rfl) (by kernel_rfl) (by kernel_rfl) (eqG n _ _ _ _) ?_
 refine run_eqF_cons (a:=.agg (gV d d')) (b:=.agg (gV s s')) (by kernel_rfl) (by kernel_rfl) (by kernel_rfl) (eqG n _ _ _ _) ?_
 refine run_eqF_cons (a:=.bool t) (b:=.bool u) (by kernel_rfl) (by kernel_rfl) (by kernel_rfl) (run_equalIn_bool' _ _ _ _ _ (by kernel_rfl)) ?_
 kernel_rfl
theorem geq_self (x y:R4):geq x y x y=true:=by
 unfold geq
 rw [R4.eq_iff.2 rfl,R4.eq_iff.2 rfl]; rfl
def eqEvM (a a' b b' c c' d d':R4) (t:Bool):Ev Tryz.prog :=
 eqEv 48 (mV a a' b b' c c' d d' t) (mV a a' b b' c c' d d' t) true (by kernel_rfl) (fun w=>by
  have h:=eqM (w:=w) 9995 a a' b b' c c' d d' t a a' b b' c c' d d' t
  rw [geq_self,geq_self,geq_self,geq_self,show (t==t)=true from beq_self_eq_true t] at h
  exact h)
noncomputable def sR (F:Prop) (x:Rat):R4:=⟨selB F (decide (x.num<0)),selS F (mag x.num.natAbs),false,selS F (mag x.den)⟩
noncomputable def eqMA (m:MQ):Ev Tryz.prog:=eqEvM (sR (FitM m) m.a.re) (sR (FitM m) m.a.im) (sR (FitM m) m.b.re) (sR (FitM m) m.b.im) (sR (FitM m) m.c.re) (sR (FitM m) m.c.im) (sR (FitM m) m.d.re) (sR (FitM m) m.d.im) (selB (FitM m) m.t)
abbrev svB (b:Bool):SV:=.one (.c (.b (.v (.bool b))))
abbrev pI (n m:Int):Pt:=.fin (gint n m)
theorem pI_fit {n m:Int} (h:n.natAbs<256) (k:m.natAbs<256):FitP (pI n m):=fit_int h k
theorem pI_ne {n m n' m':Int} (h:¬ (n=n'∧m=m')):pI n m≠pI n' m':=fun e=>h (by
 injection e with e
 injection e with e1 e2
 have k1:=congrArg Rat.num e1
 have k2:=congrArg Rat.num e2
 rw [(divInt_one n).1,(divInt_one n').1] at k1
 rw [(divInt_one m).1,(divInt_one m').1] at k2
 exact ⟨k1,k2⟩)
theorem fit_small {z:GQ} (h1:z.re.num.natAbs<256) (h2:z.re.den<256) (h3:z.im.num.natAbs<256) (h4:z.im.den<256):FitP (.fin z) :=
 ⟨Sz.fit (k:=1) ⟨sz_small h1,sz_small (n:=(z.re.den:Int)) (by simpa using h2)⟩ (by decide),Sz.fit (k:=1) ⟨sz_small h3,sz_small (n:=(z.im.den:Int)) (by simpa using h4)⟩ (by decide)⟩
theorem gq_lit {z w:GQ} (h1:decide (z.re=w.re)=true) (h2:decide (z.im=w.im)=true):z=w:=GQ.ext2 (of_decide_eq_true h1) (of_decide_eq_true h2)
theorem mq_ext {m n:MQ} (h1:m.a=n.a) (h2:m.b=n.b) (h3:m.c=n.c) (h4:m.d=n.d) (h5:m.t=n.t):m=n:=by cases m; cases n; cases h1; cases h2; cases h3; cases h4; cases h5; rfl
def sNum8 (k:Int):Y.Spec Tryz.prog:=Y.Spec.auto Tryz.call30 [.one (svI k)] [] (.one (svI k)) [] [] [] 400 Tryz.func30 hmA (by kernel_rfl) (fun β=>by kernel_rfl)
def sIn8 (n m:Int) (hn : -9223372036854775808≤n∧n≤9223372036854775807:=by decide) (hm : -9223372036854775808≤m∧m≤9223372036854775807:=by decide):Y.Spec Tryz.prog :=
 Y.Spec.auto Tryz.call39 [.one (svI n),.one (svI m)] [] (svG (gint n m)) [] [(sR4Int n m hn hm).e] [] 400 Tryz.func39 hmA (by kernel_rfl) (fun β=>by kernel_rfl)
def sAt8 (n m:Int) (hn : -9223372036854775808≤n∧n≤9223372036854775807:=by decide) (hm : -9223372036854775808≤m∧m≤9223372036854775807:=by decide):Y.Spec Tryz.prog :=
 Y.Spec.auto Tryz.call142 [.one (svI n),.one (svI m)] [] (svP (.fin (gint n m))) [] [(sIn8 n m hn hm).e] [] 400 Tryz.func142 hmA (by kernel_rfl) (fun β=>by kernel_rfl)
inductive T3 where
 | lo
 | mid
 | hi
def T3.at (s:ByteArray):T3→Prop
 | .lo=>decide ((120:Int)<(s.size:Int))=false
 | .mid=>decide ((120:Int)<(s.size:Int))=true∧decide ((s.size:Int)≤1024)=true
 | .hi=>decide ((120:Int)<(s.size:Int))=true∧decide ((s.size:Int)≤1024)=false
def T3.yes:T3→Bool
 | .mid=>true
 | _=>false
theorem T3.all (s:ByteArray):∃ k:T3,k.at s:=by
 cases h:decide ((120:Int)<(s.size:Int)) with
 | false=>exact ⟨.lo,h⟩
 | true=>cases h2:decide ((s.size:Int)≤1024) with
  | true=>exact ⟨.mid,h,h2⟩
  | false=>exact ⟨.hi,h,h2⟩
theorem bool_lit {a b:Bool} (h:a=b):Value.bool a=.bool b:=by rw [h]
noncomputable def sIs8 (M:MQ):Y.Spec Tryz.prog:=Y.Spec.auto Tryz.call33 [.one (.a (maC M)),.one (svI (maK M)),svM M,.one (svI 0)] [] (svB true) []
 [(sR8Told M).e,eqMA M,(sNum8 (maK M)).e,.eqv 23 (.bool (maK M==maK M)) (.bool true) (ieq_self _)] [] 400 Tryz.func33 hmA (by kernel_rfl) (fun β=>by kernel_rfl)
def eqM0:Ev Tryz.prog:=eqEvM r40 r40 r40 r40 r40 r40 r40 r40 false
def sIs8c (k:Int):List (Ev Tryz.prog):=[eqM0,(sNum8 k).e]
end Go.Proofs.YtbepimnlleilfaaGreat
end
section
namespace Go.Proofs.YtbepimnlleilfaaGreat.Y
open Go Go.RowKit
set_option maxRecDepth 100000
theorem fit10:FitG (gint 1 0):=fit_int (by decide) (by decide)
theorem fit00:FitG (gint 0 0):=fit_int (by decide) (by decide)
def frX (x:Rat) (h:Fit x):Fr:=⟨fR x,.ok x h,rfl⟩
def gpX (z:GQ) (h:FitG z):Gp:=⟨frX z.re h.1,frX z.im h.2⟩
def sR8Det {m:MQ} (h:MSz KD m):Spec Tryz.prog :=
 Spec.auto Tryz.call153 [svM m] [] (svG (mdet m)) []
  [(sR4Times (GSz.le h.a) (GSz.le h.d)).e,(sR4Times (GSz.le h.b) (GSz.le h.c)).e,(sR4Minus (h.a.mul h.d).le (h.b.mul h.c).le).e] [(1,11)] 400 Tryz.func153 hmA (by kernel_rfl) (fun β=>by kernel_rfl)
theorem rL_inj {x y:R4} (h:rL x=rL y):x=y:=by
 obtain ⟨b,s,c,t⟩:=x
 obtain ⟨b',s',c',t'⟩:=y
 simp only [rL,List.cons.injEq,Lf.b.injEq,Lf0.v.injEq,Value.bool.injEq,Value.string.injEq,and_true] at h
 obtain ⟨rfl,rfl,rfl,rfl⟩:=h
 rfl
inductive Gn where
 | ok (z:GQ) (h:FitG z)
 | no (g:Gp) (h:g.B=false)
def Gn.gp:Gn→Gp
 | .ok z h=>gpX z h
 | .no g _=>g
def Gn.x (g:Gn):R4:=g.gp.a.r
def Gn.y (g:Gn):R4:=g.gp.b.r
def Gn.B:Gn→Bool
 | .ok ..=>true
 | .no ..=>false
theorem Gn.gpB:∀ g:Gn,g.gp.B=g.B
 | .ok ..=>rfl
 | .no _ h=>h
def Gn.z:Gn→GQ
 | .ok z _=>z
 | .no ..=>g0
theorem fr_of (r:R4) (h:r.s.size≤maxLen∧r.t.size≤maxLen):∃ a:Fr,a.r=r:=by
 obtain ⟨a,ha⟩:=fp_of r h.1 h.2
 exact ⟨⟨r,a,by rw [← ha]; cases a<;>rfl⟩,rfl⟩
theorem gn_of (x y:R4) (hx:x.s.size≤maxLen∧x.t.size≤maxLen) (hy:y.s.size≤maxLen∧y.t.size≤maxLen):∃ g:Gn,g.x=x∧g.y=y:=by
 obtain ⟨a,rfl⟩:=fr_of x hx
 obtain ⟨b,rfl⟩:=fr_of y hy
 cases h:(Gp.mk a b).B with
 | false=>exact ⟨.no ⟨a,b⟩ h,rfl,rfl⟩
 | true =>
  have h':=Bool.and_eq_true_iff.1 h
  obtain ⟨ra,fa,ea⟩:=a
  obtain ⟨rb,fb,eb⟩:=b
  cases fa with
  | no=>cases h'.1
  | ok x hx2=>cases fb with
   | no=>cases h'.2
   | ok y hy2 =>
    refine ⟨.ok ⟨x,y⟩ ⟨hx2,hy2⟩,rL_inj ?_,rL_inj ?_⟩
    · exact ea
    · exact eb
end Go.Proofs.YtbepimnlleilfaaGreat.Y
end
section
namespace Go.Proofs.YtbepimnlleilfaaGreat
open Go Go.RowKit
set_option maxRecDepth 100000
set_option maxHeartbeats 1000000 in
theorem bwd_any (a:Option Addr) (len cap:Nat) (w:World) :
  Calls Tryz.prog 166 #[.slice a len cap] w fun e w'=>e=.returned (.func (.func 294) #[] #[.pointer (some ⟨w.heap.size,0,none⟩)])∧w'=w.alloc (.cells #[.slice a len cap] 74):=by
 refine (callsIn_wide (n:=1)).1 ?_
 refine callsIn_of_wp Tryz.func166 rfl trivial ?_ rfl
 simp only [Tryz.ntmps166,List.size_toArray,List.length_cons,List.length_nil,Nat.reduceAdd,Nat.reduceSub,Array.replicate_succ,Array.replicate_zero,List.push_toArray,List.append_toArray,List.nil_append,List.cons_append]
 gi_wp2
 go_ret
 exact ⟨rfl,rfl⟩
end Go.Proofs.YtbepimnlleilfaaGreat
namespace Go.Proofs.YtbepimnlleilfaaGreat.Y
open Go Go.RowKit
set_option maxRecDepth 100000
abbrev mcI (k:Int):SC:=.c (.b (.v (.int .i64 k)))
abbrev MOB:TypeId:=48
abbrev BWF:FuncId:=294
def bwPl (b:Nat):Pl:=⟨b,fun i=>some ⟨b,i,none⟩,fun _=>0,fun c=>c=b,fun _=>undef⟩
def sMbChk {q:MQ} (h:MayQ q):Spec Tryz.prog :=
 Spec.auto Tryz.call44 [.one (.a (mCl q))] [] (.one (mcI 0)) [] [(sOpenYes h).e] [] 400 Tryz.func44 hmA (by kernel_rfl) (fun β=>by kernel_rfl)
def sMbChkNo {m:Mp} {t:Bool} (h:OpenNo m t):Spec Tryz.prog :=
 Spec.auto Tryz.call44 [.one (.a m.C)] [] (.one (mcI 2)) [] [(sOpenNo h).e] [] 400 Tryz.func44 hmA (by kernel_rfl) (fun β=>by kernel_rfl)
section
variable {m q:MQ} (hm:MayQ m) (hq:MayQ q)
include hm hq
end
theorem ma_fit {m:MQ} (h:FitM m):maC m=mCl m∧maK m=0:=by
 refine ⟨?_,(maC_yes h).2⟩
 unfold maC mCl
 simp only [gsC_yes h]
 rw [show selB (FitM m) m.t=m.t from if_pos h]
end Go.Proofs.YtbepimnlleilfaaGreat.Y
end
section
namespace Go.Proofs.YtbepimnlleilfaaGreat.Y
open Go Go.RowKit
set_option maxRecDepth 100000
def RwD (sz n:Nat) (L:Nat→List Lf) (w:World) (g:Pl):Prop :=
 (n=0∧∀ c,¬ g.F c)∨(0<n∧∃ b o cs t fr,(∀ m,g.v m=some ⟨b,o+m,none⟩)∧(∀ c,g.F c↔c=b)∧w.heap[b]?=some (.cells cs t fr)∧∀ j,j<n→w.rangeAt b (o+j*sz) ((L j).map (Lf.den idE)))
theorem RwD.heap {sz n:Nat} {L:Nat→List Lf} {w w':World} {g:Pl} (h:RwD sz n L w g) (k:∀ b,g.F b→w'.heap[b]?=w.heap[b]?):RwD sz n L w' g:=by
 rcases h with h | ⟨h0,b,o,cs,t,fr,h1,h2,h3,h4⟩
 · exact .inl h
 · have e:=k b ((h2 b).2 rfl)
   refine .inr ⟨h0,b,o,cs,t,fr,h1,h2,by rw [e]; exact h3,fun j hj i v hv=>?_⟩
   have:=h4 j hj i v hv
   rw [cell_of_row _ _ _ _ _ _ h3] at this
   rw [cell_of_row _ _ _ _ _ _ (by rw [e]; exact h3)]
   exact this
theorem RwD.lt {sz n:Nat} {L:Nat→List Lf} {w:World} {g:Pl} (h:RwD sz n L w g) (c:Nat) (hc:g.F c):c<w.heap.size:=by
 rcases h with h | ⟨h0,b,o,cs,t,fr,h1,h2,h3,h4⟩
 · exact absurd hc (h.2 c)
 · rw [(h2 c).1 hc]
   exact heap_some_lt h3
theorem lsRw_stable (sz n:Nat) (L:Nat→List Lf):Stable (RwD sz n L) :=
 ⟨fun w g h c hc=>h.lt c hc,fun w w' g h k=>h.heap fun b hb=>k.block b (h.lt b hb),
  fun w w' g b o m s h hs ht hF=>h.heap fun c hc=>ht.block c (h.lt c hc) (fun e=>hF (e▸hc))⟩
def rwT (sz n:Nat) (L:Nat→List Lf):Thing:=thing (RwD sz n L) (lsRw_stable sz n L)
def lsYOf:SV→Nat
 | .one (.c (.b (.y k _ _)))=>k
 | _=>0
def lsZOf:SV→Nat
 | .one (.c (.b (.z k _)))=>k
 | _=>0
theorem ls_ix {T:TypeId} (hu:Tryz.prog.underlying T=some (.slice (Tryz.prog.elem T))) {sz:Nat} (hs:(Tryz.prog.info? (Tryz.prog.elem T)).map (·.size)=some sz) {n N j:Nat} {L:Nat→List Lf} (hj:j<n) (hN:n≤N) (k:Nat) (x y:Operand) (β:Env) (w:World) (h:holdsAll β w [(k,(rwT sz N L).ob)]) (ρ:Operand→Value) (o:Oper) (ho:o.op=.indexAddr T x y)
  (hx:(Op.indexAddr T x y).operands.toList.map ρ=[.slice ((β k).v 0) n ((β k).c 0),.int .i64 (j:Int)]):∃ ys w',fresh β w [(k,(rwT sz N L).ob)] ys∧(execOp ρ o).run Tryz.prog w=.ok (.value ((SV.one (.c (.b (.z k (j*sz))))).den (extE β 0 ys))) w'∧newHold w' [] ys∧Below w.heap.size w w':=by
 have h1:RwD sz N L w (β k):=h _ (List.mem_singleton.2 rfl)
 have h3:ρ x=.slice ((β k).v 0) n ((β k).c 0)∧ρ y=.int .i64 (j:Int):=by simpa [Op.operands] using hx
 rcases h1 with h1 | ⟨h0,b,of,cs,t,fr,h1,h2,h4,h5⟩
 · omega
 refine ⟨[],w,(fun _ h=>by cases h),?_,trivial,Below.refl _ _⟩
 unfold execOp
 rw [ho]
 dsimp only
 rw [h3.1,h3.2,h1 0]
 have e:((SV.one (.c (.b (.z k (j*sz))))).den (extE β 0 []))=.pointer (some ⟨b,of+j*sz,none⟩):=by
  show Value.pointer ((β k).v (j*sz))=_
  rw [h1]
 rw [e]
 have hz:((sizeOf (Tryz.prog.elem T)).run Tryz.prog w)=.ok sz w:=by
  cases hq:Tryz.prog.info? (Tryz.prog.elem T) with
  | none=>simp [hq] at hs
  | some i =>
   have hs:i.size=sz:=by simpa [hq] using hs
   simp [sizeOf,typeInfo,hq,hs]
 have h6:=run_indexAt_slice (P:=Tryz.prog) (w:=w) T ⟨b,of,none⟩ n ((β k).c 0) .i64 (j:Int) hu
 rw [if_pos ⟨by omega,by omega⟩,hz] at h6
 simp only [Result.andThen_ok,Int.toNat_natCast,Addr.add_mid] at h6
 simp [go_sem,Nat.add_zero,h6]
def eIx {T:TypeId} (hu:Tryz.prog.underlying T=some (.slice (Tryz.prog.elem T))) {sz:Nat} (hs:(Tryz.prog.info? (Tryz.prog.elem T)).map (·.size)=some sz) {n N j:Nat} (L:Nat→List Lf) (hj:j<n) (hN:n≤N):Ev Tryz.prog:=.dyn (fun o _ _=>match o.op with
 | .indexAddr t _ _=>Nat.beq t T
 | _=>false) fun o xs _=>match o.op with
 | .indexAddr _ x y=>lit (lsYOf (xs.getD 0 undefS)) fun k=>.rd (o.dst.getD 0) (.indexAddr T x y) (fun β=>[.slice ((β k).v 0) n ((β k).c 0),.int .i64 (j:Int)]) [(k,(rwT sz N L).ob)] 0 (.one (.c (.b (.z k (j*sz))))) [] (fun β w h ρ o ho hx=>ls_ix hu hs hj hN k x y β w h ρ o ho hx)
 | _=>.cut
theorem ls_ld {T:TypeId} {d:TypeDesc} (hu:Tryz.prog.underlying T=some d) (hd:d.isRow=true) {sz:Nat} {n j:Nat} {L:Nat→List Lf} (hs:(Tryz.prog.info? T).map (·.size)=some (L j).length) (hL:∀ β,(L j).map (Lf.den β)=(L j).map (Lf.den idE)) (hj:j<n) (k:Nat) (x:Operand) (β:Env) (w:World) (h:holdsAll β w [(k,(rwT sz n L).ob)]) (ρ:Operand→Value) (o:Oper) (ho:o.op=.load T x)
  (hx:(Op.load T x).operands.toList.map ρ=[.pointer ((β k).v (j*sz))]):∃ ys w',fresh β w [(k,(rwT sz n L).ob)] ys∧(execOp ρ o).run Tryz.prog w=.ok (.value ((SV.one (.a (L j))).den (extE β 0 ys))) w'∧newHold w' [] ys∧Below w.heap.size w w':=by
 have h1:RwD sz n L w (β k):=h _ (List.mem_singleton.2 rfl)
 have h3:ρ x=.pointer ((β k).v (j*sz)):=by simpa [Op.operands] using hx
 rcases h1 with h1 | ⟨h0,b,of,cs,t,fr,h1,h2,h4,h5⟩
 · omega
 refine ⟨[],w,(fun _ h=>by cases h),?_,trivial,Below.refl _ _⟩
 unfold execOp
 rw [ho]
 dsimp only
 rw [h3,h1]
 have h6:=run_loadAt_mid (P:=Tryz.prog) w b (of+j*sz) T ((L j).map (Lf.den idE)) d (h5 j hj) hu hd (by rw [List.length_map]; exact hs)
 have e:((SV.one (.a (L j))).den (extE β 0 []))=.agg ((L j).map (Lf.den idE)).toArray:=by
  show Value.agg ((L j).map (Lf.den (extE β 0 []))).toArray=_
  rw [hL]
 rw [e]
 simp only [Sem.run_bind,h6,Result.andThen_ok]
 rfl
def eLd {T:TypeId} {d:TypeDesc} (hu:Tryz.prog.underlying T=some d) (hd:d.isRow=true) (sz:Nat) {n j:Nat} {L:Nat→List Lf} (hs:(Tryz.prog.info? T).map (·.size)=some (L j).length) (hL:∀ β,(L j).map (Lf.den β)=(L j).map (Lf.den idE)) (hj:j<n):Ev Tryz.prog:=.dyn (fun o xs _=>match o.op with
 | .load t _=>Nat.beq t T
 | _=>false) fun o xs _=>match o.op with
 | .load _ x=>lit (lsZOf (xs.getD 0 undefS)) fun k=>.rd (o.dst.getD 0) (.load T x) (fun β=>[.pointer ((β k).v (j*sz))]) [(k,(rwT sz n L).ob)] 0 (.one (.a (L j))) [] (fun β w h ρ o ho hx=>ls_ld hu hd hs hL hj k x β w h ρ o ho hx)
 | _=>.cut
theorem app_core {P:Program} (A:AppT P) (w:World) (ty:TypeId) {n m:Nat} {xs news:List Value} (old:Option (Nat × Nat)) (v:Value)
  (hold:(old=none∧n=0∧xs=[]∧v=.slice none 0 0)∨∃ b c,old=some (b,c)∧v=.slice (some ⟨b,0,none⟩) n c∧w.ownsRow 0 A.e A.sz v n xs)
  (ad:Addr) (cc:Nat) (hl:news.length=m*A.sz) (hnews:∀ j u,news[j]?=some u→w.cell? (ad.add j)=some u) (h1:∀ u∈news,u.oneCell'=true) (hm:0<m) (h63:n+m≤maxLen) (hb:(n+m)*A.bytes≤140737488355328) :
  ∃ g cap w',(Builtin.append_ #[A.t,A.t] ty #[v,.slice (some ad) m cc]).run P w=.ok (.slice (some ⟨g,0,none⟩) (n+m) cap) w'∧w'.ownsRow 0 A.e A.sz (.slice (some ⟨g,0,none⟩) (n+m) cap) (n+m) (xs++news) ∧
   ((w.heap.size≤g∧Below w.heap.size w w')∨∃ c,old=some (g,c)∧∃ N,Slot w g 0 N∧Touch w w' g 0 N):=by
 have hsmall:n+m≤9223372036854775807:=by simp only [maxLen] at h63; omega
 have grown:∀ (o:Nat),o<n+m→xs.length=n*A.sz →
   (w.drew.alloc (.cells (xs.toArray++news.toArray++Builtin.zeroCells A.z.cells (grownCap w (n+m) o A.e-(n+m))) A.e)).ownsRow 0 A.e A.sz
    (.slice (some ⟨w.heap.size,0,none⟩) (n+m) (grownCap w (n+m) o A.e)) (n+m) (xs++news) ∧
   Below w.heap.size w (w.drew.alloc (.cells (xs.toArray++news.toArray++Builtin.zeroCells A.z.cells (grownCap w (n+m) o A.e-(n+m))) A.e)):=by
  intro o ho hx
  have hge:=grownCap_ge w (n+m) o A.e
  have hcm:grownCap w (n+m) o A.e≤maxLen:=grownCap_le_maxLen w (n+m) o A.e h63
  have hlen:(xs++news).length=(n+m)*A.sz:=by rw [List.length_append,hx,hl,Nat.add_mul]
  refine ⟨⟨hlen,.inr ⟨w.heap.size,_,_,rfl,Nat.zero_le _,heap_alloc_new w.drew _,hge,hcm,?_,?_⟩⟩,⟨rfl,rfl,rfl,by simp,fun k hk=>Below.heap_alloc w.drew _ k hk⟩⟩
  · simp only [Array.size_append,List.size_toArray,size_zeroCells,A.hzs,hx,hl,← Nat.add_mul]
    congr 1
    omega
  · simp only [Array.toList_append,List.append_assoc]
    rw [← List.append_assoc,← hlen]
    exact List.take_left
 rcases hold with ⟨rfl,rfl,rfl,rfl⟩ | ⟨b,c,rfl,rfl,hown⟩
 · obtain ⟨g1,g2⟩:=grown 0 (by omega) (by simp)
   refine ⟨w.heap.size,grownCap w (0+m) 0 A.e,_,?_,g1,.inl ⟨Nat.le_refl _,g2⟩⟩
   have:=run_append_nil (P:=P) w A.t ty A.e A.i A.z A.ht A.hi A.hz ad m cc news (by rw [A.hsize]; exact hl) hnews hm (by omega) (by rw [A.hby]; rw [Nat.zero_add] at hb; omega)
   simpa using this
 · have hown2:=hown
   obtain ⟨hxl,h2⟩:=hown
   rcases h2 with ⟨e,_⟩ | ⟨g,cap,cur,e,_,hh,hnc,hcm,hcs,ht⟩
   · cases e
   injection e with e1 e2 e3
   injection e1 with e1
   injection e1 with e1
   subst e1 e3
   by_cases hroom:n+m≤c
   · have hfit:n*A.i.size+news.length≤cur.size:=by rw [hl,hcs,A.hsize,← Nat.add_mul]; exact Nat.mul_le_mul_right _ hroom
     have hr:=run_append_room (P:=P) w A.t ty A.e A.i A.ht A.hi b n c cur hh ad m cc news (by rw [A.hsize]; exact hl) hnews h1 hroom hfit
     have hsize:(cur.toList.take (n*A.i.size)++news++cur.toList.drop (n*A.i.size+news.length)).toArray.size=cur.size:=by
      simp only [List.size_toArray,List.length_append,List.length_take,List.length_drop,Array.length_toList]
      omega
     refine ⟨b,c,_,hr,⟨by rw [List.length_append,hxl,hl,Nat.add_mul],.inr ⟨b,c,_,rfl,Nat.zero_le _,setRow_heap w b cur _ A.e _ hh,hroom,hcm,by rw [hsize]; exact hcs,?_⟩⟩,.inr ⟨c,rfl,cur.size,⟨cur,A.e,hh,A.he,by omega⟩,?_⟩⟩
     · rw [A.hsize,ht]
       have hlen:(xs++news).length=(n+m)*A.sz:=by rw [List.length_append,hxl,hl,Nat.add_mul]
       rw [← hlen]
       exact List.take_left
     · exact ⟨rfl,rfl,rfl,by simp,fun k hk hne=>setRow_other w _ k _ hne,fun cs2 t2 fr2 h2=>by
        rw [hh] at h2
        obtain ⟨rfl,rfl,rfl⟩:=Obj.cells.inj (Option.some.inj h2)
        refine ⟨_,setRow_heap w _ _ _ _ _ hh,hsize,fun j hj=>?_⟩
        have hj2:cur.size≤j:=by omega
        rw [Array.getElem?_eq_none (by rw [hsize]; exact hj2),Array.getElem?_eq_none hj2]⟩
   · obtain ⟨g1,g2⟩:=grown c (by omega) hxl
     refine ⟨w.heap.size,grownCap w (n+m) c A.e,_,?_,g1,.inl ⟨Nat.le_refl _,g2⟩⟩
     exact run_append_grow (P:=P) w A.t ty A.e A.i A.z A.ht A.hi A.hz ⟨b,0,none⟩ n c xs (by rw [A.hsize]; exact hxl) (fun j u hu=>by
      have hj:j<n*A.sz:=by have:=(List.getElem?_eq_some_iff.1 hu).1; omega
      have:=hown2.cellAt j hj
      rw [Addr.add_mid,Nat.zero_add,this]
      exact hu) ad m cc news (by rw [A.hsize]; exact hl) hnews (by omega) (by omega) (growslice_fits (by omega) (by rw [A.hby]; exact hb))
def rwCs (L:Nat→List Lf) (n:Nat):List Value:=(List.range n).flatMap fun j=>(L j).map (Lf.den idE)
theorem rwCs_succ (L:Nat→List Lf) (n:Nat):rwCs L (n+1)=rwCs L n++(L n).map (Lf.den idE):=by
 unfold rwCs
 rw [List.range_succ,List.flatMap_append,List.flatMap_cons,List.flatMap_nil,List.append_nil]
theorem rwCs_len {sz:Nat} {L:Nat→List Lf}:∀ n,(∀ j,j<n→(L j).length=sz)→(rwCs L n).length=n*sz
 | 0,_=>by simp [rwCs]
 | n+1,h=>by rw [rwCs_succ,List.length_append,rwCs_len n fun j hj=>h j (by omega),List.length_map,h n (by omega),Nat.add_mul,Nat.one_mul]
theorem rwCs_get {sz:Nat} {L:Nat→List Lf} {i e:Nat} {v:Value} (hv:((L i).map (Lf.den idE))[e]?=some v):∀ n,(∀ j,j<n→(L j).length=sz)→i<n→(rwCs L n)[i*sz+e]?=some v
 | 0,_,h=>absurd h (Nat.not_lt_zero i)
 | n+1,hs,h=>by
  have he:e<(L i).length:=by have:=(List.getElem?_eq_some_iff.1 hv).1; rwa [List.length_map] at this
  have hl:(rwCs L n).length=n*sz:=rwCs_len n fun j hj=>hs j (by omega)
  rw [rwCs_succ]
  rcases Nat.lt_succ_iff_lt_or_eq.1 h with h1 | rfl
  · have:i*sz+sz≤n*sz:=by rw [← Nat.succ_mul]; exact Nat.mul_le_mul_right _ h1
    rw [List.getElem?_append_left (by rw [hl]; have:=hs i (by omega); omega)]
    exact rwCs_get hv n (fun j hj=>hs j (by omega)) h1
  · rw [List.getElem?_append_right (by rw [hl]; omega),hl,show i*sz+e-i*sz=e by omega]
    exact hv
theorem rwCs_at {sz:Nat} {L:Nat→List Lf} {k:Nat} {v:Value}:∀ n,(∀ j,j<n→(L j).length=sz)→(rwCs L n)[k]?=some v→∃ i e,i<n∧k=i*sz+e∧((L i).map (Lf.den idE))[e]?=some v
 | 0,_,h=>by simp [rwCs] at h
 | n+1,hs,h=>by
  have hl:(rwCs L n).length=n*sz:=rwCs_len n fun j hj=>hs j (by omega)
  rw [rwCs_succ] at h
  by_cases hk:k<n*sz
  · rw [List.getElem?_append_left (by omega)] at h
    obtain ⟨i,e,h1,h2,h3⟩:=rwCs_at n (fun j hj=>hs j (by omega)) h
    exact ⟨i,e,by omega,h2,h3⟩
  · rw [List.getElem?_append_right (by omega),hl] at h
    exact ⟨n,k-n*sz,by omega,by omega,h⟩
theorem rwCs_add (L:Nat→List Lf) (n:Nat):∀ m,rwCs L (n+m)=rwCs L n++rwCs (fun j=>L (n+j)) m
 | 0=>by simp [rwCs]
 | m+1=>by rw [← Nat.add_assoc,rwCs_succ,rwCs_succ,rwCs_add L n m,List.append_assoc]
def OrD (sz:Nat) (e:TypeId) (n:Nat) (L:Nat→List Lf) (w:World) (g:Pl):Prop :=
 (∀ c,g.F c↔c=g.b)∧(∀ m,g.v m=some ⟨g.b,m,none⟩)∧(0<n∧∀ j,j<n→(L j).length=sz)∧w.ownsRow 0 e sz (.slice (some ⟨g.b,0,none⟩) n (g.c 0)) n (rwCs L n)
theorem OrD.cells {sz:Nat} {e:TypeId} {n:Nat} {L:Nat→List Lf} {w:World} {g:Pl} (h:OrD sz e n L w g):∃ cur,w.heap[g.b]?=some (.cells cur e (0,0))∧n≤g.c 0∧g.c 0≤maxLen∧cur.size=g.c 0*sz∧cur.toList.take (n*sz)=rwCs L n:=by
 rcases h.2.2.2.2 with ⟨e1,_⟩ | ⟨g',cap,cur,e1,_,hh,h1,h2,h3,h4⟩
 · cases e1
 · injection e1 with e1 e2 e3
   injection e1 with e1
   injection e1 with e1
   subst e1 e3
   exact ⟨cur,hh,h1,h2,h3,h4⟩
theorem OrD.heap {sz:Nat} {e:TypeId} {n:Nat} {L:Nat→List Lf} {w w':World} {g:Pl} (h:OrD sz e n L w g) (k:w'.heap[g.b]?=w.heap[g.b]?):OrD sz e n L w' g:=by
 obtain ⟨cur,hh,h1,h2,h3,h4⟩:=h.cells
 exact ⟨h.1,h.2.1,h.2.2.1,h.2.2.2.1,.inr ⟨g.b,g.c 0,cur,rfl,Nat.zero_le _,by rw [k]; exact hh,h1,h2,h3,h4⟩⟩
theorem lr_stable (sz:Nat) (e:TypeId) (n:Nat) (L:Nat→List Lf):Stable (OrD sz e n L) :=
 ⟨fun w g h c hc=>by rw [(h.1 c).1 hc]; obtain ⟨cur,hh,_⟩:=h.cells; exact heap_some_lt hh,
  fun w w' g h k=>h.heap (k.block _ (by obtain ⟨cur,hh,_⟩:=h.cells; exact heap_some_lt hh)),
  fun w w' g b o m s h hs ht hF=>h.heap (ht.block _ (by obtain ⟨cur,hh,_⟩:=h.cells; exact heap_some_lt hh) fun e=>hF ((h.1 b).2 e.symm))⟩
theorem OrD.rw {sz:Nat} {e:TypeId} {n:Nat} {L:Nat→List Lf} (w:World) (g:Pl) (h:OrD sz e n L w g):RwD sz n L w g:=by
 obtain ⟨cur,hh,h1,h2,h3,h4⟩:=h.cells
 refine .inr ⟨h.2.2.1.1,g.b,0,cur,e,(0,0),fun m=>by rw [h.2.1,Nat.zero_add],h.1,hh,fun j hj i v hv=>?_⟩
 rw [cell_of_row _ _ _ _ _ _ hh,Nat.zero_add]
 have hi:i<(L j).length:=by have:=(List.getElem?_eq_some_iff.1 hv).1; rwa [List.length_map] at this
 have h5:=rwCs_get hv n h.2.2.1.2 hj
 have hlt:j*sz+i<n*sz:=by
  have:j*sz+sz≤n*sz:=by rw [← Nat.succ_mul]; exact Nat.mul_le_mul_right _ hj
  have:=h.2.2.1.2 j hj
  omega
 rw [← h4,List.getElem?_take_of_lt hlt] at h5
 rw [← Array.getElem?_toList]
 exact h5
def orT (sz:Nat) (e:TypeId) (n:Nat) (L:Nat→List Lf):Thing :=
 ⟨OrD sz e n L,lr_stable sz e n L,1,RwD sz n L,lsRw_stable sz n L,OrD.rw,false,fun h=>(Bool.noConfusion h),false,fun h=>(Bool.noConfusion h),false,fun h=>(Bool.noConfusion h),false,fun h=>(Bool.noConfusion h)⟩
def orO (sz:Nat) (e:TypeId) (n:Nat) (L:Nat→List Lf):Ob:=.ow (orT sz e n L) e
inductive OrB (β:Env) (sz:Nat) (e:TypeId) (n0:Nat) (L:Nat→List Lf):Option (Nat × Ob)→Value→Prop where
 | nil (h:n0=0):OrB β sz e n0 L none (.slice none 0 0)
 | row (K:Nat) (h:n0=0):OrB β sz e n0 L (some (K,.row [] e 0 sz)) (.slice (some ⟨(β K).b,0,none⟩) 0 ((β K).c 0))
 | own (K:Nat):OrB β sz e n0 L (some (K,orO sz e n0 L)) (.slice ((β K).v 0) n0 ((β K).c 0))
structure OrL (A:AppT Tryz.prog) (L:Nat→List Lf) (n:Nat):Prop where
 len:∀ j,j<n→(L j).length=A.sz
 one:∀ j,j<n→∀ u∈(L j).map (Lf.den idE),u.oneCell'=true
 max:n≤maxLen
 bytes:n*A.bytes≤140737488355328
theorem or_core (A:AppT Tryz.prog) {L:Nat→List Lf} {n0 m:Nat} (h:OrL A L (n0+m)) (hm:0<m) {β:Env} {w:World} {old:Option (Nat × Ob)} {v:Value} (hold:oldHolds β w old) (hk:OrB β A.sz A.e n0 L old v) (b of cc M:Nat)
  (hnews:∀ i,i<m→w.rangeAt b (of+i*A.sz) ((L (n0+i)).map (Lf.den idE))) (s y:Operand) (ρ:Operand→Value) (o:Oper) (ho:o.op=.call ⟨.builtin .append,#[s,y],#[A.t,A.t]⟩) (h1:ρ s=v) (h2:ρ y=.slice (some ⟨b,of,none⟩) m cc) :
  ∃ (g:Pl) (w':World),(execOp ρ o).run Tryz.prog w=.ok (.value ((SV.one (.c (.b (.y M 0 (n0+m))))).den (extE β M [g]))) w'∧(orO A.sz A.e (n0+m) L).holds (extE β M [g]) w' g∧Grow β w w' old g∧(∀ c,g.F c→c=g.b):=by
 have hnl:(rwCs (fun j=>L (n0+j)) m).length=m*A.sz:=rwCs_len m fun j hj=>h.len _ (by omega)
 have hnc:∀ j u,(rwCs (fun j=>L (n0+j)) m)[j]?=some u→w.cell? ((⟨b,of,none⟩:Addr).add j)=some u:=fun j u hu=>by
  obtain ⟨i,e,h3,h4,h5⟩:=rwCs_at m (fun j hj=>h.len (n0+j) (by omega)) hu
  have:=hnews i h3 e u h5
  rw [Addr.add_mid,h4,← Nat.add_assoc]
  exact this
 have hone:∀ u∈rwCs (fun j=>L (n0+j)) m,u.oneCell'=true:=fun u hu=>by
  obtain ⟨j,hj,hu⟩:=List.mem_flatMap.1 hu
  exact h.one _ (by have:=List.mem_range.1 hj; omega) u hu
 obtain ⟨ol,hol,hol2⟩:∃ ol:Option (Nat × Nat),((ol=none∧n0=0∧rwCs L n0=[]∧v=.slice none 0 0)∨∃ b c,ol=some (b,c)∧v=.slice (some ⟨b,0,none⟩) n0 c∧w.ownsRow 0 A.e A.sz v n0 (rwCs L n0)) ∧
   ∀ g c,ol=some (g,c)→∃ p,old=some p∧g=(β p.1).b:=by
  cases hk with
  | nil h0=>subst h0; exact ⟨none,.inl ⟨rfl,rfl,rfl,rfl⟩,fun g c e=>by cases e⟩
  | row K h0 =>
   subst h0
   obtain ⟨ho1,cur,hc1,hc2,hc3,hc4,hc5,hc6⟩:(Ob.row [] A.e 0 A.sz).holds β w (β K):=hold
   exact ⟨some ((β K).b,(β K).c 0),.inr ⟨_,_,rfl,rfl,by simp [rwCs],.inr ⟨_,_,cur,rfl,Nat.zero_le _,hc1,hc3,hc4,hc5,by simp [rwCs]⟩⟩,fun g c e=>by
    injection e with e
    injection e with e1 e2
    exact ⟨_,rfl,e1.symm⟩⟩
  | own K =>
   obtain ⟨_,hd⟩:(orO A.sz A.e n0 L).holds β w (β K):=hold
   have hd:OrD A.sz A.e n0 L w (β K):=hd
   have hv:=hd.2.1 0
   exact ⟨some ((β K).b,(β K).c 0),.inr ⟨_,_,rfl,by rw [hv],by rw [hv]; exact hd.2.2.2⟩,fun g c e=>by
    injection e with e
    injection e with e1 e2
    exact ⟨_,rfl,e1.symm⟩⟩
 obtain ⟨g,cap,w',hr,hown,hgr⟩:=app_core A w o.type ol v hol ⟨b,of,none⟩ cc hnl hnc hone hm h.max h.bytes
 rw [← rwCs_add] at hown
 obtain ⟨cur,hcur⟩:∃ cur,w'.heap[g]?=some (.cells cur A.e (0,0)):=by
  rcases hown.2 with ⟨e1,_⟩ | ⟨g',cap,cur,e1,_,hh,_⟩
  · cases e1
  · injection e1 with e1 e2 e3
    injection e1 with e1
    injection e1 with e1
    subst e1
    exact ⟨cur,hh⟩
 refine ⟨⟨g,fun m=>some ⟨g,m,none⟩,fun _=>cap,fun c=>c=g,fun _=>undef⟩,w',?_,⟨⟨rfl,A.he,_,hcur⟩,fun c=>Iff.rfl,fun m=>rfl,⟨by omega,h.len⟩,hown⟩,?_,fun c hc=>hc⟩
 · have e:(SV.one (.c (.b (.y M 0 (n0+m))))).den (extE β M [(⟨g,fun m=>some ⟨g,m,none⟩,fun _=>cap,fun c=>c=g,fun _=>undef⟩:Pl)])=.slice (some ⟨g,0,none⟩) (n0+m) cap:=by
    have:=extE_in (β:=β) (n:=M) (xs:=[(⟨g,fun m=>some ⟨g,m,none⟩,fun _=>cap,fun c=>c=g,fun _=>undef⟩:Pl)]) (i:=0) rfl
    simp only [Nat.add_zero] at this
    simp only [SV.den,SC.den,Lf.den,Lf0.den,this]
   rw [e]
   exact exec_append s y A.t ho h1 h2 hr
 · rcases hgr with ⟨k1,k2⟩ | ⟨c,k1,N,k2,k3⟩
   · exact .inl ⟨k1,k2⟩
   · obtain ⟨p,p1,p2⟩:=hol2 g c k1
     exact .inr ⟨p,p1,p2,N,k2,k3⟩
def isApT (t:TypeId) (o:Oper):Bool:=match o.op,o.dst with
 | .call ⟨.builtin .append,#[_,_],#[u,u']⟩,some _=>Nat.beq u t&&Nat.beq u' t
 | _,_=>false
def lsKOf:SV→Nat
 | .one (.c (.b (.y k _ _)))=>k
 | .one (.c (.b (.r k _)))=>k
 | .one (.c (.b (.s k _ _ _)))=>k
 | _=>0
inductive OrK where
 | nil
 | row
 | own
def OrK.old (k:OrK) (sz:Nat) (e:TypeId) (n0:Nat) (L:Nat→List Lf) (K:Nat):Option (Nat × Ob):=match k with
 | .nil=>none
 | .row=>some (K,.row [] e 0 sz)
 | .own=>some (K,orO sz e n0 L)
def OrK.val (k:OrK) (n0:Nat) (g:Pl):Value:=match k with
 | .nil=>.slice none 0 0
 | .row=>.slice (some ⟨g.b,0,none⟩) 0 (g.c 0)
 | .own=>.slice (g.v 0) n0 (g.c 0)
def OrK.ok (k:OrK) (n0:Nat):Prop:=match k with
 | .nil=>n0=0
 | .row=>n0=0
 | .own=>True
theorem OrK.orB {k:OrK} {n0:Nat} (h:k.ok n0) (β:Env) (sz:Nat) (e:TypeId) (L:Nat→List Lf) (K:Nat):OrB β sz e n0 L (k.old sz e n0 L K) (k.val n0 (β K)):=by
 cases k
 · exact .nil h
 · exact .row K h
 · exact .own K
def eApL (A:AppT Tryz.prog) (k:OrK) {n0 m N t:Nat} {L L':Nat→List Lf} (hk:k.ok n0) (ht:n0+m=t) (h:OrL A L t) (hm:0<m) (hN:m≤N) (hL:∀ i,i<m→L (n0+i)=L' i):Ev Tryz.prog:=.dynU (fun o _ _=>isApT A.t o) fun o xs ob=>match o.op,o.dst with
 | .call ⟨.builtin .append,#[s,y],_⟩,some d=>lit (lsKOf (xs.getD 0 undefS)) fun K=>lit (lsKOf (xs.getD 1 undefS)) fun a=>lit ob.length fun M =>
   .upd (some d) (.call ⟨.builtin .append,#[s,y],#[A.t,A.t]⟩) (fun β=>[k.val n0 (β K),.slice ((β a).v 0) m ((β a).c 0)]) [(a,(rwT A.sz N L').ob)] (k.old A.sz A.e n0 L K) M (orO A.sz A.e t L) (.one (.c (.b (.y M 0 t)))) (fun β w hh hold ρ o ho hx=>by
    subst ht
    have h3:ρ s=k.val n0 (β K)∧ρ y=.slice ((β a).v 0) m ((β a).c 0):=by simpa [Op.operands,Call.operands] using hx
    have hd:RwD A.sz N L' w (β a):=hh (a,(rwT A.sz N L').ob) (List.mem_singleton.2 rfl)
    rcases hd with hd | ⟨h0,b,of,cs,t,fr,d1,d2,d3,d4⟩
    · omega
    obtain ⟨g,w',r1,r2,r3,r4⟩:=or_core A h hm hold (OrK.orB hk β A.sz A.e L K) b of ((β a).c 0) M (fun i hi=>by rw [hL i hi]; exact d4 i (by omega)) s y ρ o ho h3.1 (by rw [h3.2,d1]; rfl)
    exact ⟨g,w',r1,r2,r3,fun c hc=>.inl (r4 c hc)⟩)
 | _,_=>.cut
def eAp1 (A:AppT Tryz.prog) (k:OrK) {n0:Nat} {L:Nat→List Lf} {cs:List Lf} (hk:k.ok n0) (h:OrL A L (n0+1)) (hL:L n0=cs) (hc:∀ β,cs.map (Lf.den β)=cs.map (Lf.den idE)):Ev Tryz.prog:=.dynU (fun o _ _=>isApT A.t o) fun o xs ob=>match o.op,o.dst with
 | .call ⟨.builtin .append,#[s,y],_⟩,some d=>lit (lsKOf (xs.getD 0 undefS)) fun K=>lit (lsKOf (xs.getD 1 undefS)) fun a=>lit ob.length fun M =>
   .upd (some d) (.call ⟨.builtin .append,#[s,y],#[A.t,A.t]⟩) (fun β=>[k.val n0 (β K),.slice (some ⟨(β a).b,0,none⟩) 1 1]) [(a,.box cs A.e)] (k.old A.sz A.e n0 L K) M (orO A.sz A.e (n0+1) L) (.one (.c (.b (.y M 0 (n0+1))))) (fun β w hh hold ρ o ho hx=>by
    have h3:ρ s=k.val n0 (β K)∧ρ y=.slice (some ⟨(β a).b,0,none⟩) 1 1:=by simpa [Op.operands,Call.operands] using hx
    have hd:(Ob.box cs A.e).holds β w (β a):=hh (a,.box cs A.e) (List.mem_singleton.2 rfl)
    obtain ⟨g,w',r1,r2,r3,r4⟩:=or_core A h (Nat.zero_lt_one) hold (OrK.orB hk β A.sz A.e L K) (β a).b 0 1 M (fun i hi=>by
     obtain rfl:i=0:=by omega
     rw [Nat.add_zero,hL,← hc β]
     intro j v hv
     rw [cell_of_row _ _ _ _ _ _ hd.2,Nat.zero_mul]
     simpa using hv) s y ρ o ho h3.1 h3.2
    exact ⟨g,w',r1,r2,r3,fun c hc=>.inl (r4 c hc)⟩)
 | _,_=>.cut
theorem ap_none (A:AppT Tryz.prog) (s y:Operand) (w:World) (v0:Option Addr) (c0:Nat) (v:Option Addr) (c:Nat) (ρ:Operand→Value) (o:Oper) (ho:o.op=.call ⟨.builtin .append,#[s,y],#[A.t,A.t]⟩) (h1:ρ s=.slice v0 0 c0) (h2:ρ y=.slice v 0 c):(execOp ρ o).run Tryz.prog w=.ok (.value (.slice v0 0 c0)) w:=by
 refine exec_append s y A.t ho h1 h2 (run_append_nothing w A.t A.t o.type A.e A.i A.ht A.hi v0 0 c0 (Nat.zero_le _) _ ?_)
 cases v with
 | none=>exact Src.ofNil w A.ht c
 | some a=>exact Src.ofSlice w A.ht a 0 c [] (by simp) (fun j u hu=>by simp at hu) (fun u hu=>by cases hu)
def eAp0 (A:AppT Tryz.prog) (k:OrK) (hk:k.ok 0) {N:Nat} {L':Nat→List Lf}:Ev Tryz.prog:=.dyn (fun o _ _=>isApT A.t o) fun o xs ob=>match o.op,o.dst with
 | .call ⟨.builtin .append,#[s,y],_⟩,some d=>lit (lsKOf (xs.getD 0 undefS)) fun K=>lit (lsKOf (xs.getD 1 undefS)) fun a =>
   .rd d (.call ⟨.builtin .append,#[s,y],#[A.t,A.t]⟩) (fun β=>[k.val 0 (β K),.slice ((β a).v 0) 0 ((β a).c 0)]) [] 0 (match k with
    | .nil=>.one (.c (.b (.v (.slice none 0 0))))
    | .row=>.one (.c (.b (.r K 0)))
    | .own=>.one (.c (.b (.y K 0 0)))) [] (fun β w hh ρ o ho hx=>by
    have h3:ρ s=k.val 0 (β K)∧ρ y=.slice ((β a).v 0) 0 ((β a).c 0):=by simpa [Op.operands,Call.operands] using hx
    refine ⟨[],w,(fun _ h=>by cases h),?_,trivial,Below.refl _ _⟩
    cases k
    · exact ap_none A s y w _ _ _ _ ρ o ho h3.1 h3.2
    · exact ap_none A s y w _ _ _ _ ρ o ho h3.1 h3.2
    · exact ap_none A s y w _ _ _ _ ρ o ho h3.1 h3.2)
 | _,_=>.cut
def lsOwAt:List Ob→Nat→Nat
 | [],_=>0
 | .ow _ _::_,k=>k
 | _::r,k=>lsOwAt r (k+1)
def eFrz:Ev Tryz.prog:=.frz fun ob=>lsOwAt ob 0
def eSl {T:TypeId} (hu:Tryz.prog.underlying T=some (.slice (Tryz.prog.elem T))) {sz:Nat} (hs:(Tryz.prog.info? (Tryz.prog.elem T)).map (·.size)=some sz) {N n:Nat} (hN:n≤N) (e:TypeId) (L:Nat→List Lf):Ev Tryz.prog:=.dyn (fun o _ _=>match o.op with
 | .slice t _ none (some _) none=>Nat.beq t T
 | _=>false) fun o xs _=>match o.op with
 | .slice _ x none (some y) none=>lit (lsKOf (xs.getD 0 undefS)) fun k=>.rd (o.dst.getD 0) (.slice T x none (some y) none) (fun β=>[.slice ((β k).v 0) N ((β k).c 0),.int .i64 (n:Int)]) [(k,.th (orT sz e N L))] 0 (.one (.c (.b (.y k 0 n)))) [] (fun β w h ρ o ho hx=>by
   have h3:ρ x=.slice ((β k).v 0) N ((β k).c 0)∧ρ y=.int .i64 (n:Int):=by simpa [Op.operands] using hx
   have hd:OrD sz e N L w (β k):=h (k,.th (orT sz e N L)) (List.mem_singleton.2 rfl)
   obtain ⟨cur,_,h1,_⟩:=hd.cells
   refine ⟨[],w,(fun _ h=>by cases h),?_,trivial,Below.refl _ _⟩
   have hz:((sizeOf (Tryz.prog.elem T)).run Tryz.prog w)=.ok sz w:=by
    cases hq:Tryz.prog.info? (Tryz.prog.elem T) with
    | none=>simp [hq] at hs
    | some i =>
     have hs:i.size=sz:=by simpa [hq] using hs
     simp [sizeOf,typeInfo,hq,hs]
   have h6:=run_slice_h (P:=Tryz.prog) (w:=w) T ((β k).v 0) N ((β k).c 0) hu .i64 (n:Int) (by omega) (by omega)
   rw [hz] at h6
   have e:((SV.one (.c (.b (.y k 0 n)))).den (extE β 0 []))=.slice ((β k).v 0) n ((β k).c 0):=rfl
   rw [e]
   unfold execOp
   rw [ho]
   dsimp only
   simp only [Option.map_none,Option.map_some,h3.1,h3.2]
   have h7:(Instr.sliceAt T (.slice ((β k).v 0) N ((β k).c 0)) none (some (.int .i64 (n:Int))) none).run Tryz.prog w=.ok (.slice ((β k).v 0) n ((β k).c 0)) w:=by
    rw [run_sliceAt_slice (P:=Tryz.prog) (w:=w) T _ _ _ _ hu,h6,hd.2.1 0]
    simp [sliced,Addr.add]
   simp only [Sem.run_bind,h7,Result.andThen_ok]
   rfl)
 | _=>.cut
theorem said_0 {P:Program} {fn:Func} {m0:Nat} {res res':SV} {β:Env} {w:World} {e:Ending} {w':World} (h:Said P fn m0 res [] β w e w') (hr:∀ β':Env,(∀ k,k<m0→β' k=β k)→res.den β'=res'.den β):∃ xs:List Pl,freshS β w m0 xs∧e=.returned (res'.den (extE β m0 xs))∧newHold w' [] xs∧Below w.heap.size w w':=by
 obtain ⟨β',q,obj,hb,rfl,_,_,_,g⟩:=h
 exact ⟨[],(fun _ h=>by cases h),by rw [hr β' hb,extE_nil],trivial,g.bel⟩
theorem hd_ev' {m0 N B0:Nat} {w0:World} {β0:Env} {Q:Exit→Act→World→Prop} {u:Nat} {sl:List (Nat × SV)} {ob:List Ob} {ev ev':List (Ev Tryz.prog)} {p:Code × List Kf} (h:HdOk Tryz.prog m0 N B0 w0 β0 Q (mkC Tryz.prog N u sl ob ev) p):HdOk Tryz.prog m0 N B0 w0 β0 Q (mkC Tryz.prog N u sl ob ev') p :=
 fun β a w hβ hs=>h β a w hβ (hs.ev ev)
def PwFit (X:MQ) (k:Nat):Prop:=∀ j,1≤j→j≤k→FitM (mpw X j)
abbrev KW:Nat:=10000
abbrev MTX:TypeId:=185
abbrev mob0L:List Lf:=lsX g0C++lsX g0C++lsX g0C++lsX g0C++[.b (.v (.bool false))]
abbrev mAl (k:Nat) (m:MQ):List Lf:=[.b (.z k 0),.b (.z (k+1) 0),.b (.z (k+2) 0),.b (.z (k+3) 0),.b (.z (k+4) 0),.b (.z (k+5) 0),.b (.z (k+6) 0),.b (.z (k+7) 0),.b (.v (.bool m.t))]
theorem fit_mid:FitM (mid false):=⟨fit10,fit00,fit00,fit10⟩
section
variable (q:MQ) (n:Int) (X:MQ) (k:Nat)
abbrev mpRY (m:MQ):SV:=.tup [.a (mCl m),nI' 0]
abbrev mpRN (c:Int):SV:=.tup [mob0,nI' c]
end
section
variable {q:MQ} {n:Int} {X:MQ} {k:Nat} (hX:MSz KW X) (hr:Reg X) (r:SV) (w:World) {j:Nat} (hf:PwFit X j)
include hX hr hf
end
end Go.Proofs.YtbepimnlleilfaaGreat.Y
end
section
namespace Go.Proofs.YtbepimnlleilfaaGreat
open Go.Proofs.YtbepimnlleilfaaGreat.Y
def IZ (k n:Nat) (z:GQ):Prop:=∃ u v w:Int,w≠0∧u.natAbs<256^k∧v.natAbs<256^k∧w.natAbs<256^n∧z.re*w=u∧z.im*w=v
theorem g1re:(1:GQ).re=1:=by rw [← g1_def]; simp [gint,Rat.divInt_eq_div]<;>grind
theorem g1im:(1:GQ).im=0:=by rw [← g1_def]; simp [gint,Rat.divInt_eq_div]<;>grind
theorem IZ.one:IZ 1 1 (1:GQ):=⟨1,0,1,by decide,by decide,by decide,by decide,by simpa using g1re,by simpa using g1im⟩
end Go.Proofs.YtbepimnlleilfaaGreat
end
section
namespace Go.Proofs.YtbepimnlleilfaaGreat.Y
open Go Go.RowKit
set_option maxRecDepth 100000
section
variable (q:MQ) (n:Int) (X:MQ) (N:Int) {k:Nat} (hNk:N=(k:Int))
abbrev rpRY (m:MQ):SV:=.tup [.a (mC m),nI' 0]
variable (hX:MSz KW X) (hr:Reg X) (r:SV) (w:World) {j:Nat} (hf:PwFit X j)
end
def yvT (d1 d2:Nat) (s:ByteArray):(k:T3)→k.at s→List (Ev Tryz.prog)
 | .lo,h=>[.eqv d1 (.bool (decide ((120:Int)<(s.size:Int)))) (.bool false) (bool_lit h)]
 | .mid,h=>[.eqv d1 (.bool (decide ((120:Int)<(s.size:Int)))) (.bool true) (bool_lit h.1),.eqv d2 (.bool (decide ((s.size:Int)≤1024))) (.bool true) (bool_lit h.2)]
 | .hi,h=>[.eqv d1 (.bool (decide ((120:Int)<(s.size:Int)))) (.bool true) (bool_lit h.1),.eqv d2 (.bool (decide ((s.size:Int)≤1024))) (.bool false) (bool_lit h.2)]
def yvT2 (x:R4) (a b:T3) (ha:a.at x.s) (hb:b.at x.t):List (Ev Tryz.prog):=yvT 32 38 x.s a ha++(bif a.yes then [] else yvT 45 51 x.t b hb)
abbrev lgA:List SV:=[.one (.c (.b (.s 0 0 4 4)))]
noncomputable abbrev lgN:Nat:=sizeS Tryz.f139 lgA
abbrev lI (i:Int):SV:=.one (.c (.b (.v (.int .i64 i))))
abbrev lB (b:Bool):SV:=.one (.c (.b (.v (.bool b))))
section
variable (x0 y0 x1 y1 x2 y2 x3 y3:R4) (T:TypeId)
def lgCells:List Lf:=rL x0++rL y0++rL x1++rL y1++rL x2++rL y2++rL x3++rL y3
noncomputable def cOut (i:Int) (ev:List (Ev Tryz.prog)):Cf Tryz.prog:=mkC Tryz.prog lgN 1 [(0,.one (.c (.b (.s 0 0 4 4)))),(3,lI i)] [.box (lgCells x0 y0 x1 y1 x2 y2 x3 y3) T,.dead] ev
noncomputable def cIn (i j:Int) (x y:R4) (ev:List (Ev Tryz.prog)):Cf Tryz.prog:=mkC Tryz.prog lgN 1 [(0,.one (.c (.b (.s 0 0 4 4)))),(3,lI i),(22,.one (.c (.b (.s 2 0 2 2)))),(23,lI 2),(24,lI j)] [.box (lgCells x0 y0 x1 y1 x2 y2 x3 y3) T,.dead,.box (rL x++rL y) 25] ev
variable (β0:Env) (w:World) (r:Bool)
abbrev lgH (C:Cf Tryz.prog) (i:Nat):Prop:=HdOk Tryz.prog 1 lgN w.heap.size w β0 (bodyPost Tryz.prog Tryz.f139 (Said Tryz.prog Tryz.f139 1 (lB r) [] β0 w)) C (lpAt Tryz.f139 i)
theorem lg_end:lgH β0 w false (cOut x0 y0 x1 y1 x2 y2 x3 y3 T 4 []) 0:=last_ok (Ns:=[(4,13)]) (m:=200) hmA (fun β=>ok_of_maps (by kernel_rfl))
theorem lg_out0 (h:lgH β0 w r (cIn x0 y0 x1 y1 x2 y2 x3 y3 T 0 0 x0 y0 []) 1):lgH β0 w r (cOut x0 y0 x1 y1 x2 y2 x3 y3 T 0 [.cut]) 0:=piece_ok (Ns:=[(4,13)]) (m:=200) [] [0,0,2] hmA (by kernel_rfl) (fun β=>ok_of_maps (by kernel_rfl)) h
theorem lg_back0 (h:lgH β0 w r (cOut x0 y0 x1 y1 x2 y2 x3 y3 T 1 []) 0):lgH β0 w r (cIn x0 y0 x1 y1 x2 y2 x3 y3 T 0 2 x0 y0 [.cut]) 1:=piece_ok (Ns:=[(4,13)]) (m:=200) [] [0,0] hmA (by kernel_rfl) (fun β=>ok_of_maps (by kernel_rfl)) h
theorem lg_no00 {a b:T3} (ha:a.at x0.s) (hb:b.at x0.t) (h:(a.yes||b.yes)=false) (k:lgH β0 w r (cIn x0 y0 x1 y1 x2 y2 x3 y3 T 0 1 x0 y0 []) 1):lgH β0 w r (cIn x0 y0 x1 y1 x2 y2 x3 y3 T 0 0 x0 y0 (yvT2 x0 a b ha hb++[.cut])) 1:=by
 cases a
 · cases b
   · exact piece_ok (Ns:=[(4,13)]) (m:=200) [] [0,0,2] hmA (by kernel_rfl) (fun β=>ok_of_maps (by kernel_rfl)) k
   · cases h
   · exact piece_ok (Ns:=[(4,13)]) (m:=200) [] [0,0,2] hmA (by kernel_rfl) (fun β=>ok_of_maps (by kernel_rfl)) k
 · cases h
 · cases b
   · exact piece_ok (Ns:=[(4,13)]) (m:=200) [] [0,0,2] hmA (by kernel_rfl) (fun β=>ok_of_maps (by kernel_rfl)) k
   · cases h
   · exact piece_ok (Ns:=[(4,13)]) (m:=200) [] [0,0,2] hmA (by kernel_rfl) (fun β=>ok_of_maps (by kernel_rfl)) k
theorem lg_yes00 {a b:T3} (ha:a.at x0.s) (hb:b.at x0.t) (h:(a.yes||b.yes)=true):lgH β0 w true (cIn x0 y0 x1 y1 x2 y2 x3 y3 T 0 0 x0 y0 (yvT2 x0 a b ha hb)) 1:=by
 cases a
 · cases b
   · cases h
   · exact last_ok (Ns:=[(4,13)]) (m:=200) hmA (fun β=>ok_of_maps (by kernel_rfl))
   · cases h
 · exact last_ok (Ns:=[(4,13)]) (m:=200) hmA (fun β=>ok_of_maps (by kernel_rfl))
 · cases b
   · cases h
   · exact last_ok (Ns:=[(4,13)]) (m:=200) hmA (fun β=>ok_of_maps (by kernel_rfl))
   · cases h
theorem lg_no01 {a b:T3} (ha:a.at y0.s) (hb:b.at y0.t) (h:(a.yes||b.yes)=false) (k:lgH β0 w r (cIn x0 y0 x1 y1 x2 y2 x3 y3 T 0 2 x0 y0 []) 1):lgH β0 w r (cIn x0 y0 x1 y1 x2 y2 x3 y3 T 0 1 x0 y0 (yvT2 y0 a b ha hb++[.cut])) 1:=by
 cases a
 · cases b
   · exact piece_ok (Ns:=[(4,13)]) (m:=200) [] [0,0,2] hmA (by kernel_rfl) (fun β=>ok_of_maps (by kernel_rfl)) k
   · cases h
   · exact piece_ok (Ns:=[(4,13)]) (m:=200) [] [0,0,2] hmA (by kernel_rfl) (fun β=>ok_of_maps (by kernel_rfl)) k
 · cases h
 · cases b
   · exact piece_ok (Ns:=[(4,13)]) (m:=200) [] [0,0,2] hmA (by kernel_rfl) (fun β=>ok_of_maps (by kernel_rfl)) k
   · cases h
   · exact piece_ok (Ns:=[(4,13)]) (m:=200) [] [0,0,2] hmA (by kernel_rfl) (fun β=>ok_of_maps (by kernel_rfl)) k
theorem lg_yes01 {a b:T3} (ha:a.at y0.s) (hb:b.at y0.t) (h:(a.yes||b.yes)=true):lgH β0 w true (cIn x0 y0 x1 y1 x2 y2 x3 y3 T 0 1 x0 y0 (yvT2 y0 a b ha hb)) 1:=by
 cases a
 · cases b
   · cases h
   · exact last_ok (Ns:=[(4,13)]) (m:=200) hmA (fun β=>ok_of_maps (by kernel_rfl))
   · cases h
 · exact last_ok (Ns:=[(4,13)]) (m:=200) hmA (fun β=>ok_of_maps (by kernel_rfl))
 · cases b
   · cases h
   · exact last_ok (Ns:=[(4,13)]) (m:=200) hmA (fun β=>ok_of_maps (by kernel_rfl))
   · cases h
theorem lg_out1 (h:lgH β0 w r (cIn x0 y0 x1 y1 x2 y2 x3 y3 T 1 0 x1 y1 []) 1):lgH β0 w r (cOut x0 y0 x1 y1 x2 y2 x3 y3 T 1 [.cut]) 0:=piece_ok (Ns:=[(4,13)]) (m:=200) [] [0,0,2] hmA (by kernel_rfl) (fun β=>ok_of_maps (by kernel_rfl)) h
theorem lg_back1 (h:lgH β0 w r (cOut x0 y0 x1 y1 x2 y2 x3 y3 T 2 []) 0):lgH β0 w r (cIn x0 y0 x1 y1 x2 y2 x3 y3 T 1 2 x1 y1 [.cut]) 1:=piece_ok (Ns:=[(4,13)]) (m:=200) [] [0,0] hmA (by kernel_rfl) (fun β=>ok_of_maps (by kernel_rfl)) h
theorem lg_no10 {a b:T3} (ha:a.at x1.s) (hb:b.at x1.t) (h:(a.yes||b.yes)=false) (k:lgH β0 w r (cIn x0 y0 x1 y1 x2 y2 x3 y3 T 1 1 x1 y1 []) 1):lgH β0 w r (cIn x0 y0 x1 y1 x2 y2 x3 y3 T 1 0 x1 y1 (yvT2 x1 a b ha hb++[.cut])) 1:=by
 cases a
 · cases b
   · exact piece_ok (Ns:=[(4,13)]) (m:=200) [] [0,0,2] hmA (by kernel_rfl) (fun β=>ok_of_maps (by kernel_rfl)) k
   · cases h
   · exact piece_ok (Ns:=[(4,13)]) (m:=200) [] [0,0,2] hmA (by kernel_rfl) (fun β=>ok_of_maps (by kernel_rfl)) k
 · cases h
 · cases b
   · exact piece_ok (Ns:=[(4,13)]) (m:=200) [] [0,0,2] hmA (by kernel_rfl) (fun β=>ok_of_maps (by kernel_rfl)) k
   · cases h
   · exact piece_ok (Ns:=[(4,13)]) (m:=200) [] [0,0,2] hmA (by kernel_rfl) (fun β=>ok_of_maps (by kernel_rfl)) k
theorem lg_yes10 {a b:T3} (ha:a.at x1.s) (hb:b.at x1.t) (h:(a.yes||b.yes)=true):lgH β0 w true (cIn x0 y0 x1 y1 x2 y2 x3 y3 T 1 0 x1 y1 (yvT2 x1 a b ha hb)) 1:=by
 cases a
 · cases b
   · cases h
   · exact last_ok (Ns:=[(4,13)]) (m:=200) hmA (fun β=>ok_of_maps (by kernel_rfl))
   · cases h
 · exact last_ok (Ns:=[(4,13)]) (m:=200) hmA (fun β=>ok_of_maps (by kernel_rfl))
 · cases b
   · cases h
   · exact last_ok (Ns:=[(4,13)]) (m:=200) hmA (fun β=>ok_of_maps (by kernel_rfl))
   · cases h
theorem lg_no11 {a b:T3} (ha:a.at y1.s) (hb:b.at y1.t) (h:(a.yes||b.yes)=false) (k:lgH β0 w r (cIn x0 y0 x1 y1 x2 y2 x3 y3 T 1 2 x1 y1 []) 1):lgH β0 w r (cIn x0 y0 x1 y1 x2 y2 x3 y3 T 1 1 x1 y1 (yvT2 y1 a b ha hb++[.cut])) 1:=by
 cases a
 · cases b
   · exact piece_ok (Ns:=[(4,13)]) (m:=200) [] [0,0,2] hmA (by kernel_rfl) (fun β=>ok_of_maps (by kernel_rfl)) k
   · cases h
   · exact piece_ok (Ns:=[(4,13)]) (m:=200) [] [0,0,2] hmA (by kernel_rfl) (fun β=>ok_of_maps (by kernel_rfl)) k
 · cases h
 · cases b
   · exact piece_ok (Ns:=[(4,13)]) (m:=200) [] [0,0,2] hmA (by kernel_rfl) (fun β=>ok_of_maps (by kernel_rfl)) k
   · cases h
   · exact piece_ok (Ns:=[(4,13)]) (m:=200) [] [0,0,2] hmA (by kernel_rfl) (fun β=>ok_of_maps (by kernel_rfl)) k
theorem lg_yes11 {a b:T3} (ha:a.at y1.s) (hb:b.at y1.t) (h:(a.yes||b.yes)=true):lgH β0 w true (cIn x0 y0 x1 y1 x2 y2 x3 y3 T 1 1 x1 y1 (yvT2 y1 a b ha hb)) 1:=by
 cases a
 · cases b
   · cases h
   · exact last_ok (Ns:=[(4,13)]) (m:=200) hmA (fun β=>ok_of_maps (by kernel_rfl))
   · cases h
 · exact last_ok (Ns:=[(4,13)]) (m:=200) hmA (fun β=>ok_of_maps (by kernel_rfl))
 · cases b
   · cases h
   · exact last_ok (Ns:=[(4,13)]) (m:=200) hmA (fun β=>ok_of_maps (by kernel_rfl))
   · cases h
theorem lg_out2 (h:lgH β0 w r (cIn x0 y0 x1 y1 x2 y2 x3 y3 T 2 0 x2 y2 []) 1):lgH β0 w r (cOut x0 y0 x1 y1 x2 y2 x3 y3 T 2 [.cut]) 0:=piece_ok (Ns:=[(4,13)]) (m:=200) [] [0,0,2] hmA (by kernel_rfl) (fun β=>ok_of_maps (by kernel_rfl)) h
theorem lg_back2 (h:lgH β0 w r (cOut x0 y0 x1 y1 x2 y2 x3 y3 T 3 []) 0):lgH β0 w r (cIn x0 y0 x1 y1 x2 y2 x3 y3 T 2 2 x2 y2 [.cut]) 1:=piece_ok (Ns:=[(4,13)]) (m:=200) [] [0,0] hmA (by kernel_rfl) (fun β=>ok_of_maps (by kernel_rfl)) h
theorem lg_no20 {a b:T3} (ha:a.at x2.s) (hb:b.at x2.t) (h:(a.yes||b.yes)=false) (k:lgH β0 w r (cIn x0 y0 x1 y1 x2 y2 x3 y3 T 2 1 x2 y2 []) 1):lgH β0 w r (cIn x0 y0 x1 y1 x2 y2 x3 y3 T 2 0 x2 y2 (yvT2 x2 a b ha hb++[.cut])) 1:=by
 cases a
 · cases b
   · exact piece_ok (Ns:=[(4,13)]) (m:=200) [] [0,0,2] hmA (by kernel_rfl) (fun β=>ok_of_maps (by kernel_rfl)) k
   · cases h
   · exact piece_ok (Ns:=[(4,13)]) (m:=200) [] [0,0,2] hmA (by kernel_rfl) (fun β=>ok_of_maps (by kernel_rfl)) k
 · cases h
 · cases b
   · exact piece_ok (Ns:=[(4,13)]) (m:=200) [] [0,0,2] hmA (by kernel_rfl) (fun β=>ok_of_maps (by kernel_rfl)) k
   · cases h
   · exact piece_ok (Ns:=[(4,13)]) (m:=200) [] [0,0,2] hmA (by kernel_rfl) (fun β=>ok_of_maps (by kernel_rfl)) k
theorem lg_yes20 {a b:T3} (ha:a.at x2.s) (hb:b.at x2.t) (h:(a.yes||b.yes)=true):lgH β0 w true (cIn x0 y0 x1 y1 x2 y2 x3 y3 T 2 0 x2 y2 (yvT2 x2 a b ha hb)) 1:=by
 cases a
 · cases b
   · cases h
   · exact last_ok (Ns:=[(4,13)]) (m:=200) hmA (fun β=>ok_of_maps (by kernel_rfl))
   · cases h
 · exact last_ok (Ns:=[(4,13)]) (m:=200) hmA (fun β=>ok_of_maps (by kernel_rfl))
 · cases b
   · cases h
   · exact last_ok (Ns:=[(4,13)]) (m:=200) hmA (fun β=>ok_of_maps (by kernel_rfl))
   · cases h
theorem lg_no21 {a b:T3} (ha:a.at y2.s) (hb:b.at y2.t) (h:(a.yes||b.yes)=false) (k:lgH β0 w r (cIn x0 y0 x1 y1 x2 y2 x3 y3 T 2 2 x2 y2 []) 1):lgH β0 w r (cIn x0 y0 x1 y1 x2 y2 x3 y3 T 2 1 x2 y2 (yvT2 y2 a b ha hb++[.cut])) 1:=by
 cases a
 · cases b
   · exact piece_ok (Ns:=[(4,13)]) (m:=200) [] [0,0,2] hmA (by kernel_rfl) (fun β=>ok_of_maps (by kernel_rfl)) k
   · cases h
   · exact piece_ok (Ns:=[(4,13)]) (m:=200) [] [0,0,2] hmA (by kernel_rfl) (fun β=>ok_of_maps (by kernel_rfl)) k
 · cases h
 · cases b
   · exact piece_ok (Ns:=[(4,13)]) (m:=200) [] [0,0,2] hmA (by kernel_rfl) (fun β=>ok_of_maps (by kernel_rfl)) k
   · cases h
   · exact piece_ok (Ns:=[(4,13)]) (m:=200) [] [0,0,2] hmA (by kernel_rfl) (fun β=>ok_of_maps (by kernel_rfl)) k
theorem lg_yes21 {a b:T3} (ha:a.at y2.s) (hb:b.at y2.t) (h:(a.yes||b.yes)=true):lgH β0 w true (cIn x0 y0 x1 y1 x2 y2 x3 y3 T 2 1 x2 y2 (yvT2 y2 a b ha hb)) 1:=by
 cases a
 · cases b
   · cases h
   · exact last_ok (Ns:=[(4,13)]) (m:=200) hmA (fun β=>ok_of_maps (by kernel_rfl))
   · cases h
 · exact last_ok (Ns:=[(4,13)]) (m:=200) hmA (fun β=>ok_of_maps (by kernel_rfl))
 · cases b
   · cases h
   · exact last_ok (Ns:=[(4,13)]) (m:=200) hmA (fun β=>ok_of_maps (by kernel_rfl))
   · cases h
theorem lg_out3 (h:lgH β0 w r (cIn x0 y0 x1 y1 x2 y2 x3 y3 T 3 0 x3 y3 []) 1):lgH β0 w r (cOut x0 y0 x1 y1 x2 y2 x3 y3 T 3 [.cut]) 0:=piece_ok (Ns:=[(4,13)]) (m:=200) [] [0,0,2] hmA (by kernel_rfl) (fun β=>ok_of_maps (by kernel_rfl)) h
theorem lg_back3 (h:lgH β0 w r (cOut x0 y0 x1 y1 x2 y2 x3 y3 T 4 []) 0):lgH β0 w r (cIn x0 y0 x1 y1 x2 y2 x3 y3 T 3 2 x3 y3 [.cut]) 1:=piece_ok (Ns:=[(4,13)]) (m:=200) [] [0,0] hmA (by kernel_rfl) (fun β=>ok_of_maps (by kernel_rfl)) h
theorem lg_no30 {a b:T3} (ha:a.at x3.s) (hb:b.at x3.t) (h:(a.yes||b.yes)=false) (k:lgH β0 w r (cIn x0 y0 x1 y1 x2 y2 x3 y3 T 3 1 x3 y3 []) 1):lgH β0 w r (cIn x0 y0 x1 y1 x2 y2 x3 y3 T 3 0 x3 y3 (yvT2 x3 a b ha hb++[.cut])) 1:=by
 cases a
 · cases b
   · exact piece_ok (Ns:=[(4,13)]) (m:=200) [] [0,0,2] hmA (by kernel_rfl) (fun β=>ok_of_maps (by kernel_rfl)) k
   · cases h
   · exact piece_ok (Ns:=[(4,13)]) (m:=200) [] [0,0,2] hmA (by kernel_rfl) (fun β=>ok_of_maps (by kernel_rfl)) k
 · cases h
 · cases b
   · exact piece_ok (Ns:=[(4,13)]) (m:=200) [] [0,0,2] hmA (by kernel_rfl) (fun β=>ok_of_maps (by kernel_rfl)) k
   · cases h
   · exact piece_ok (Ns:=[(4,13)]) (m:=200) [] [0,0,2] hmA (by kernel_rfl) (fun β=>ok_of_maps (by kernel_rfl)) k
theorem lg_yes30 {a b:T3} (ha:a.at x3.s) (hb:b.at x3.t) (h:(a.yes||b.yes)=true):lgH β0 w true (cIn x0 y0 x1 y1 x2 y2 x3 y3 T 3 0 x3 y3 (yvT2 x3 a b ha hb)) 1:=by
 cases a
 · cases b
   · cases h
   · exact last_ok (Ns:=[(4,13)]) (m:=200) hmA (fun β=>ok_of_maps (by kernel_rfl))
   · cases h
 · exact last_ok (Ns:=[(4,13)]) (m:=200) hmA (fun β=>ok_of_maps (by kernel_rfl))
 · cases b
   · cases h
   · exact last_ok (Ns:=[(4,13)]) (m:=200) hmA (fun β=>ok_of_maps (by kernel_rfl))
   · cases h
theorem lg_no31 {a b:T3} (ha:a.at y3.s) (hb:b.at y3.t) (h:(a.yes||b.yes)=false) (k:lgH β0 w r (cIn x0 y0 x1 y1 x2 y2 x3 y3 T 3 2 x3 y3 []) 1):lgH β0 w r (cIn x0 y0 x1 y1 x2 y2 x3 y3 T 3 1 x3 y3 (yvT2 y3 a b ha hb++[.cut])) 1:=by
 cases a
 · cases b
   · exact piece_ok (Ns:=[(4,13)]) (m:=200) [] [0,0,2] hmA (by kernel_rfl) (fun β=>ok_of_maps (by kernel_rfl)) k
   · cases h
   · exact piece_ok (Ns:=[(4,13)]) (m:=200) [] [0,0,2] hmA (by kernel_rfl) (fun β=>ok_of_maps (by kernel_rfl)) k
 · cases h
 · cases b
   · exact piece_ok (Ns:=[(4,13)]) (m:=200) [] [0,0,2] hmA (by kernel_rfl) (fun β=>ok_of_maps (by kernel_rfl)) k
   · cases h
   · exact piece_ok (Ns:=[(4,13)]) (m:=200) [] [0,0,2] hmA (by kernel_rfl) (fun β=>ok_of_maps (by kernel_rfl)) k
theorem lg_yes31 {a b:T3} (ha:a.at y3.s) (hb:b.at y3.t) (h:(a.yes||b.yes)=true):lgH β0 w true (cIn x0 y0 x1 y1 x2 y2 x3 y3 T 3 1 x3 y3 (yvT2 y3 a b ha hb)) 1:=by
 cases a
 · cases b
   · cases h
   · exact last_ok (Ns:=[(4,13)]) (m:=200) hmA (fun β=>ok_of_maps (by kernel_rfl))
   · cases h
 · exact last_ok (Ns:=[(4,13)]) (m:=200) hmA (fun β=>ok_of_maps (by kernel_rfl))
 · cases b
   · cases h
   · exact last_ok (Ns:=[(4,13)]) (m:=200) hmA (fun β=>ok_of_maps (by kernel_rfl))
   · cases h
theorem HdOk.ev {P:Program} {m0 n B0:Nat} {w0:World} {β0:Env} {Q:Exit→Act→World→Prop} {u:Nat} {sl:List (Nat × SV)} {ob:List Ob} {ev ev':List (Ev P)} {p:Code × List Kf} (h:HdOk P m0 n B0 w0 β0 Q (mkC P n u sl ob ev) p):HdOk P m0 n B0 w0 β0 Q (mkC P n u sl ob ev') p :=
 fun β a w hβ hs=>h β a w hβ (hs.ev ev)
end
section
variable {x0 y0 x1 y1 x2 y2 x3 y3:R4} {T:TypeId}
structure LgF (x:R4) (r:Bool):Prop where
 is:∃ a b:T3,a.at x.s∧b.at x.t∧(a.yes||b.yes)=r
theorem LgF.all (x:R4):∃ r,LgF x r:=by
 obtain ⟨a,ha⟩:=T3.all x.s
 obtain ⟨b,hb⟩:=T3.all x.t
 exact ⟨_,⟨a,b,ha,hb,rfl⟩⟩
theorem long4_hd {rx0 ry0 rx1 ry1 rx2 ry2 rx3 ry3:Bool} (hx0:LgF x0 rx0) (hy0:LgF y0 ry0) (hx1:LgF x1 rx1) (hy1:LgF y1 ry1) (hx2:LgF x2 rx2) (hy2:LgF y2 ry2) (hx3:LgF x3 rx3) (hy3:LgF y3 ry3) (β0:Env) (w:World):lgH β0 w (rx0||(ry0||(rx1||(ry1||(rx2||(ry2||(rx3||ry3))))))) (cOut x0 y0 x1 y1 x2 y2 x3 y3 T 0 []) 0:=by
 refine HdOk.ev (lg_out0 x0 y0 x1 y1 x2 y2 x3 y3 T β0 w _ ?_)
 obtain ⟨ax0,bx0,hax0,hbx0,ex0⟩:=hx0.is
 cases rx0 with
 | true=>exact HdOk.ev (lg_yes00 x0 y0 x1 y1 x2 y2 x3 y3 T β0 w hax0 hbx0 ex0)
 | false =>
 refine HdOk.ev (lg_no00 x0 y0 x1 y1 x2 y2 x3 y3 T β0 w _ hax0 hbx0 ex0 ?_)
 obtain ⟨ay0,by0,hay0,hby0,ey0⟩:=hy0.is
 cases ry0 with
 | true=>exact HdOk.ev (lg_yes01 x0 y0 x1 y1 x2 y2 x3 y3 T β0 w hay0 hby0 ey0)
 | false =>
 refine HdOk.ev (lg_no01 x0 y0 x1 y1 x2 y2 x3 y3 T β0 w _ hay0 hby0 ey0 ?_)
 refine HdOk.ev (lg_back0 x0 y0 x1 y1 x2 y2 x3 y3 T β0 w _ ?_)
 refine HdOk.ev (lg_out1 x0 y0 x1 y1 x2 y2 x3 y3 T β0 w _ ?_)
 obtain ⟨ax1,bx1,hax1,hbx1,ex1⟩:=hx1.is
 cases rx1 with
 | true=>exact HdOk.ev (lg_yes10 x0 y0 x1 y1 x2 y2 x3 y3 T β0 w hax1 hbx1 ex1)
 | false =>
 refine HdOk.ev (lg_no10 x0 y0 x1 y1 x2 y2 x3 y3 T β0 w _ hax1 hbx1 ex1 ?_)
 obtain ⟨ay1,by1,hay1,hby1,ey1⟩:=hy1.is
 cases ry1 with
 | true=>exact HdOk.ev (lg_yes11 x0 y0 x1 y1 x2 y2 x3 y3 T β0 w hay1 hby1 ey1)
 | false =>
 refine HdOk.ev (lg_no11 x0 y0 x1 y1 x2 y2 x3 y3 T β0 w _ hay1 hby1 ey1 ?_)
 refine HdOk.ev (lg_back1 x0 y0 x1 y1 x2 y2 x3 y3 T β0 w _ ?_)
 refine HdOk.ev (lg_out2 x0 y0 x1 y1 x2 y2 x3 y3 T β0 w _ ?_)
 obtain ⟨ax2,bx2,hax2,hbx2,ex2⟩:=hx2.is
 cases rx2 with
 | true=>exact HdOk.ev (lg_yes20 x0 y0 x1 y1 x2 y2 x3 y3 T β0 w hax2 hbx2 ex2)
 | false =>
 refine HdOk.ev (lg_no20 x0 y0 x1 y1 x2 y2 x3 y3 T β0 w _ hax2 hbx2 ex2 ?_)
 obtain ⟨ay2,by2,hay2,hby2,ey2⟩:=hy2.is
 cases ry2 with
 | true=>exact HdOk.ev (lg_yes21 x0 y0 x1 y1 x2 y2 x3 y3 T β0 w hay2 hby2 ey2)
 | false =>
 refine HdOk.ev (lg_no21 x0 y0 x1 y1 x2 y2 x3 y3 T β0 w _ hay2 hby2 ey2 ?_)
 refine HdOk.ev (lg_back2 x0 y0 x1 y1 x2 y2 x3 y3 T β0 w _ ?_)
 refine HdOk.ev (lg_out3 x0 y0 x1 y1 x2 y2 x3 y3 T β0 w _ ?_)
 obtain ⟨ax3,bx3,hax3,hbx3,ex3⟩:=hx3.is
 cases rx3 with
 | true=>exact HdOk.ev (lg_yes30 x0 y0 x1 y1 x2 y2 x3 y3 T β0 w hax3 hbx3 ex3)
 | false =>
 refine HdOk.ev (lg_no30 x0 y0 x1 y1 x2 y2 x3 y3 T β0 w _ hax3 hbx3 ex3 ?_)
 obtain ⟨ay3,by3,hay3,hby3,ey3⟩:=hy3.is
 cases ry3 with
 | true=>exact HdOk.ev (lg_yes31 x0 y0 x1 y1 x2 y2 x3 y3 T β0 w hay3 hby3 ey3)
 | false =>
 refine HdOk.ev (lg_no31 x0 y0 x1 y1 x2 y2 x3 y3 T β0 w _ hay3 hby3 ey3 ?_)
 refine HdOk.ev (lg_back3 x0 y0 x1 y1 x2 y2 x3 y3 T β0 w _ ?_)
 exact lg_end x0 y0 x1 y1 x2 y2 x3 y3 T β0 w
theorem long4_ok {rx0 ry0 rx1 ry1 rx2 ry2 rx3 ry3:Bool} (hx0:LgF x0 rx0) (hy0:LgF y0 ry0) (hx1:LgF x1 rx1) (hy1:LgF y1 ry1) (hx2:LgF x2 rx2) (hy2:LgF y2 ry2) (hx3:LgF x3 rx3) (hy3:LgF y3 ry3) (β:Env) (w:World) (hh:(Ob.box (lgCells x0 y0 x1 y1 x2 y2 x3 y3) T).holds β w (β 0)) :
  Calls Tryz.prog 139 #[.slice (some ⟨(β 0).b,0,none⟩) 4 4] w fun e w'=>e=.returned (.bool (rx0||(ry0||(rx1||(ry1||(rx2||(ry2||(rx3||ry3))))))))∧Below w.heap.size w w':=by
 refine (sx_cut (P:=Tryz.prog) lgA [.box (lgCells x0 y0 x1 y1 x2 y2 x3 y3) T] [.cut] [] [(4,13)] 200 (lB (rx0||(ry0||(rx1||(ry1||(rx2||(ry2||(rx3||ry3)))))))) [] Tryz.func139 hmA (u:=1) (sl:=[(0,.one (.c (.b (.s 0 0 4 4)))),(3,lI 0)]) (ob:=[.box (lgCells x0 y0 x1 y1 x2 y2 x3 y3) T,.dead]) (σ:=[0,0]) (p':=lpAt Tryz.f139 0) (by kernel_rfl) (fun β=>ok_of_maps (by kernel_rfl)) (by kernel_rfl) (by kernel_rfl) β w (fun k o ho=>?_) (long4_hd hx0 hy0 hx1 hy1 hx2 hy2 hx3 hy3 β w)).mono ?_
 · cases k with
   | zero=>simp only [List.getElem?_cons_zero] at ho; obtain rfl:=Option.some.inj ho; exact hh
   | succ k=>simp at ho
 · rintro e w' ⟨β',q,obj,e1,rfl,e2,e3,e4,g⟩
   exact ⟨rfl,g.bel⟩
end
abbrev OFN:List (Nat × Nat):=[(9,5007004005008),(15,16),(20,11)]
abbrev a3 (p q r:Rw):SV:=.one (.a (lsX (p.C++q.C++r.C)))
abbrev tB (t:Bool):SV:=.one (.c (.b (.v (.bool t))))
abbrev nI (k:Int):SC:=.c (.b (.v (.int .i64 k)))
section
variable {p q r s u v:Pt}
def of6E (z:P6 p q r s u v FitP):List (Ev Tryz.prog):=[(sSpotP p z.1).e,(sSpotP s z.2.2.2.1).e,(sSpotP q z.2.1).e,(sSpotP u z.2.2.2.2.1).e,(sSpotP r z.2.2.1).e,(sSpotP v z.2.2.2.2.2).e]
def twE {t1 t2 t3 t4 t5 t6:Bool} (h1:ptB p q=t1) (h2:ptB s u=t2) (h3:ptB q r=t3) (h4:ptB u v=t4) (h5:ptB r p=t5) (h6:ptB v s=t6):List (Ev Tryz.prog) :=
 eqEvPt h1::(bif t1 then [] else eqEvPt h2::(bif t2 then [] else eqEvPt h3::(bif t3 then [] else eqEvPt h4::(bif t4 then [] else eqEvPt h5::(bif t5 then [] else [eqEvPt h6])))))
abbrev KFb:Nat:=1024
theorem of1z (z:P6 p q r s u v FitP) (h:Six p q r s u v):MSz (dsz (csz KFb)) (mcha p q r):=mcha_sz z.1.sz z.2.1.sz z.2.2.1.sz (by decide) h.r1
theorem of2z (z:P6 p q r s u v FitP) (h:Six p q r s u v):MSz (dsz (csz KFb)) (mcha s u v):=mcha_sz z.2.2.2.1.sz z.2.2.2.2.1.sz z.2.2.2.2.2.sz (by decide) h.r2
theorem of3z (z:P6 p q r s u v FitP) (t:Bool) (h:Six p q r s u v):MSz (dsz (bsz 1 (dsz (csz KFb)))) (mcmp (mid t) (mcha p q r)):=mcmp_sz (mid_sz t (k:=1)) (of1z z h) (h.r3 t)
theorem of4z (z:P6 p q r s u v FitP) (h:Six p q r s u v):MSz (dsz (dsz (csz KFb))) (minv (mcha s u v)):=minv_sz (of2z z h) h.r4
theorem of5z (z:P6 p q r s u v FitP) (t:Bool) (h:Six p q r s u v):MSz KM (mof p q r s u v t):=(mcmp_sz (of4z z h) (of3z z t h) (h.r5 t)).mono (by decide)
theorem mof_nrm (t:Bool) (h:Six p q r s u v):Nrm (mof p q r s u v t):=Nrm.cmp (h.r4.mnorm) (h.r3 t).mnorm
set_option maxHeartbeats 4000000 in
noncomputable def sOf3 (z:P6 p q r s u v FitP) (t:Bool) (h:Six p q r s u v):Spec Tryz.prog :=
 Spec.auto Tryz.call47 [a3 p.w q.w r.w,a3 s.w u.w v.w,tB t] [] (.tup [.a (lsX (maC (mof p q r s u v t))),nI (maK (mof p q r s u v t))]) []
  (of6E z++twE (ptB_ne' h.a) (ptB_ne' h.d) (ptB_ne' h.b) (ptB_ne' h.e) (ptB_ne' h.c) (ptB_ne' h.f) ++
   [sStill.e,(sChaR (z.2.2.2.1.sz.mono (by decide)) (z.2.2.2.2.1.sz.mono (by decide)) (z.2.2.2.2.2.sz.mono (by decide)) h.r2).e,(sUndoR ((of2z z h).mono (by decide)) h.r2.mnorm).e,
    (sChaR (z.1.sz.mono (by decide)) (z.2.1.sz.mono (by decide)) (z.2.2.1.sz.mono (by decide)) h.r1).e,(sBehR ((mid_sz t (k:=1)).mono (by decide)) ((of1z z h).mono (by decide)) (h.r3 t)).e,
    (sBehR ((of4z z h).mono (by decide)) ((of3z z t h).mono (by decide)) (h.r5 t)).e,(sToldN (of5z z t h) (mof_nrm t h)).e]) OFN 1200 Tryz.func47 hmA (by kernel_rfl) (fun β=>by kernel_rfl)
end
end Go.Proofs.YtbepimnlleilfaaGreat.Y
end
section
namespace Go.Proofs.YtbepimnlleilfaaGreat
theorem jz_det:gzero (mdet ⟨gint 0 0,gint 2 0,gint 2 0,gint 0 0,false⟩)=false:=by kernel_rfl
def mJ:MQ:=⟨gint 0 0,gint 1 0,gint 1 0,gint 0 0,false⟩
theorem j_norm:mnorm ⟨gint 0 0,gint 2 0,gint 2 0,gint 0 0,false⟩=mJ:=mq_ext (gq_lit (by kernel_rfl) (by kernel_rfl)) (gq_lit (by kernel_rfl) (by kernel_rfl)) (gq_lit (by kernel_rfl) (by kernel_rfl)) (gq_lit (by kernel_rfl) (by kernel_rfl)) rfl
theorem j_inv:minv mJ=mJ:=mq_ext (gq_lit (by kernel_rfl) (by kernel_rfl)) (gq_lit (by kernel_rfl) (by kernel_rfl)) (gq_lit (by kernel_rfl) (by kernel_rfl)) (gq_lit (by kernel_rfl) (by kernel_rfl)) rfl
theorem j_fit:FitM mJ:=⟨fit_int (by decide) (by decide),fit_int (by decide) (by decide),fit_int (by decide) (by decide),fit_int (by decide) (by decide)⟩
theorem z2_fit:FitM ⟨gint 0 0,gint 2 0,gint 2 0,gint 0 0,false⟩:=⟨fit_int (by decide) (by decide),fit_int (by decide) (by decide),fit_int (by decide) (by decide),fit_int (by decide) (by decide)⟩
def gH:GQ:=⟨Rat.divInt 0 1,Rat.divInt (-1) 2⟩
theorem j_half:msend mJ (.fin (gint 0 2)) false=.fin gH:=congrArg Pt.fin (gq_lit (by kernel_rfl) (by kernel_rfl))
theorem j_msD:gzero (msD mJ (.fin (gint 0 2)))=false:=by kernel_rfl
theorem h_parts:gH.re.num=0∧gH.re.den=1∧gH.im.num = -1∧gH.im.den=2:=by decide +kernel
theorem h_fit:FitP (.fin gH):=fit_small (by rw [h_parts.1]; decide) (by rw [h_parts.2.1]; decide) (by rw [h_parts.2.2.1]; decide) (by rw [h_parts.2.2.2]; decide)
theorem h_cells:paC (.fin gH)=[.b (.v (.bool false)),.b (.v (.bool false)),.b (.v (.string ⟨#[]⟩)),.b (.v (.bool false)),.b (.v (.string ⟨#[1]⟩)),.b (.v (.bool true)),.b (.v (.string ⟨#[1]⟩)),.b (.v (.bool false)),.b (.v (.string ⟨#[2]⟩))]:=by
 rw [paC_raw,(pa_fit h_fit).1,(pa_fit h_fit).2.1,(pa_fit h_fit).2.2]
 show rawC false (fR gH.re) (fR gH.im)=_
 unfold fR
 rw [h_parts.1,h_parts.2.1,h_parts.2.2.1,h_parts.2.2.2,show (0:Int).natAbs=0 from rfl,show (-1:Int).natAbs=1 from rfl,mag_0,mag_1,mag_2]
 rfl
def mK:MQ:=⟨gint 0 0,gint (-2) 0,gint 1 0,gint (-2) 0,false⟩
theorem k_of:mof (pI 0 0) (pI 1 0) (pI 2 0) (pI 1 0) (pI 2 0) .inf false=mK:=mq_ext (gq_lit (by kernel_rfl) (by kernel_rfl)) (gq_lit (by kernel_rfl) (by kernel_rfl)) (gq_lit (by kernel_rfl) (by kernel_rfl)) (gq_lit (by kernel_rfl) (by kernel_rfl)) rfl
theorem k_fit:FitM mK:=⟨fit_int (by decide) (by decide),fit_int (by decide) (by decide),fit_int (by decide) (by decide),fit_int (by decide) (by decide)⟩
theorem k_six:Six (pI 0 0) (pI 1 0) (pI 2 0) (pI 1 0) (pI 2 0) .inf:=⟨pI_ne (by decide),pI_ne (by decide),pI_ne (by decide),pI_ne (by decide),(fun e=>by cases e),(fun e=>by cases e)⟩
theorem k_p6:P6 (pI 0 0) (pI 1 0) (pI 2 0) (pI 1 0) (pI 2 0) .inf FitP:=⟨pI_fit (by decide) (by decide),pI_fit (by decide) (by decide),pI_fit (by decide) (by decide),pI_fit (by decide) (by decide),pI_fit (by decide) (by decide),trivial⟩
end Go.Proofs.YtbepimnlleilfaaGreat
namespace Go.Proofs.YtbepimnlleilfaaGreat.Y
open Go Go.RowKit
set_option maxRecDepth 100000
theorem j_may:MayQ mJ:=⟨j_fit,by kernel_rfl,.inl (by kernel_rfl)⟩
abbrev q2 (n m:Int):Pt:=.fin (gint n m)
noncomputable def wkMake:Spec Tryz.prog :=
 (sMake (m:=⟨gint 0 0,gint 2 0,gint 2 0,gint 0 0,false⟩) z2_fit jz_det).as [gS (gint 0 0),gS (gint 2 0),gS (gint 2 0),gS (gint 0 0),tB' false] (.tup [.a (lsX (mC mJ)),nI' 0]) rfl (by
  show SV.tup [.a (lsX (maC (mnorm ⟨gint 0 0,gint 2 0,gint 2 0,gint 0 0,false⟩))),nI' (maK (mnorm ⟨gint 0 0,gint 2 0,gint 2 0,gint 0 0,false⟩))]=_
  rw [j_norm,(maC_fit j_fit).1,(maC_fit j_fit).2])
noncomputable def kwAt:Spec Tryz.prog :=
 (sAt j_may (p:=q2 0 2) (fit_int (by decide) (by decide)) j_msD).as [.one (.a (mCl mJ)),.one (.a (lsX (q2 0 2).w.C))] (.tup [.a [.b (.v (.bool false)),.b (.v (.bool false)),.b (.v (.string ⟨#[]⟩)),.b (.v (.bool false)),.b (.v (.string ⟨#[1]⟩)),.b (.v (.bool true)),.b (.v (.string ⟨#[1]⟩)),.b (.v (.bool false)),.b (.v (.string ⟨#[2]⟩))],nI' 0]) rfl (by
  show SV.tup [.a (lsX (paC (msend mJ (q2 0 2) false))),nI' (paK (msend mJ (q2 0 2) false))]=_
  rw [j_half,paK_fit h_fit,h_cells])
noncomputable def kInv:Spec Tryz.prog :=
 (sInv j_may).as [.one (.a (mCl mJ))] (.tup [.a (lsX (mC mJ)),nI' 0]) rfl (by
  show SV.tup [.a (lsX (maC (minv mJ))),nI' (maK (minv mJ))]=_
  rw [j_inv,(maC_fit j_fit).1,(maC_fit j_fit).2])
noncomputable def kOrd:Spec Tryz.prog:=sOrd2 j_may rfl (by kernel_rfl) (by kernel_rfl)
noncomputable def kOf:Spec Tryz.prog :=
 (sOf3 k_p6 false k_six).as [a3 (q2 0 0).w (q2 1 0).w (q2 2 0).w,a3 (q2 1 0).w (q2 2 0).w Pt.inf.w,tB false] (.tup [.a (lsX (mC mK)),nI' 0]) rfl (by
  show SV.tup [.a (lsX (maC (mof (q2 0 0) (q2 1 0) (q2 2 0) (q2 1 0) (q2 2 0) .inf false))),nI' (maK (mof (q2 0 0) (q2 1 0) (q2 2 0) (q2 1 0) (q2 2 0) .inf false))]=_
  rw [k_of,(maC_fit k_fit).1,(maC_fit k_fit).2])
def eqEvM1 (a a' b b' c c' d d':R4) (t:Bool):Ev Tryz.prog :=
 eqEv 48 (Go.Proofs.YtbepimnlleilfaaGreat.mV a a' b b' c c' d d' t) (Go.Proofs.YtbepimnlleilfaaGreat.mV a a' b b' c c' d d' t) true (by kernel_rfl) (fun w=>by
  have h:=eqM (w:=w) 9995 a a' b b' c c' d d' t a a' b b' c c' d d' t
  rw [geq_self,geq_self,geq_self,geq_self,show (t==t)=true from beq_self_eq_true t] at h
  exact h)
def eqMC1 (m:MQ):Ev Tryz.prog:=eqEvM1 (fR m.a.re) (fR m.a.im) (fR m.b.re) (fR m.b.im) (fR m.c.re) (fR m.c.im) (fR m.d.re) (fR m.d.im) m.t
noncomputable def nX (k:Int):Ev Tryz.prog:=(Spec.ofX (sNum8 k) rfl rfl).e
noncomputable def inX (n m:Int) (hn : -9223372036854775808≤n∧n≤9223372036854775807:=by decide) (hm : -9223372036854775808≤m∧m≤9223372036854775807:=by decide):Ev Tryz.prog:=(Spec.ofX (sIn8 n m hn hm) rfl rfl).e
noncomputable def atX (n m:Int) (hn : -9223372036854775808≤n∧n≤9223372036854775807:=by decide) (hm : -9223372036854775808≤m∧m≤9223372036854775807:=by decide):Ev Tryz.prog:=(Spec.ofX (sAt8 n m hn hm) rfl rfl).e
noncomputable def sWorks:Spec Tryz.prog :=
 Spec.auto Tryz.call26 [] [] (.one (.c (.b (.v (.bool true))))) []
  [inX 0 0,inX 2 0,inX 2 0,inX 0 0,wkMake.e,atX 0 2,kwAt.e,kInv.e,kOrd.e,atX 0 0,atX 1 0,atX 2 0,atX 1 0,atX 2 0,kOf.e,
   nX 0,nX 0,sTxtG.e,nX 0,eqMC1 mJ,nX 0,nX 0,inX 0 0,inX (-2) 0,inX 1 0,inX (-2) 0,eqMC1 mK] [(2,2007008),(6,48)] 1200 Tryz.func26 hmA (by kernel_rfl) (fun β=>by kernel_rfl)
end Go.Proofs.YtbepimnlleilfaaGreat.Y
end
section
namespace Go.Proofs.YtbepimnlleilfaaGreat.Y
open Go Go.RowKit
set_option maxRecDepth 100000
structure Lg4 (a b c d:Gn) (r:Bool):Prop where
 is:∃ x0 y0 x1 y1 x2 y2 x3 y3:Bool,LgF a.x x0∧LgF a.y y0∧LgF b.x x1∧LgF b.y y1∧LgF c.x x2∧LgF c.y y2∧LgF d.x x3∧LgF d.y y3∧(x0||(y0||(x1||(y1||(x2||(y2||(x3||y3)))))))=r
theorem Lg4.all (a b c d:Gn):∃ r,Lg4 a b c d r:=by
 obtain ⟨x0,h0⟩:=LgF.all a.x
 obtain ⟨y0,k0⟩:=LgF.all a.y
 obtain ⟨x1,h1⟩:=LgF.all b.x
 obtain ⟨y1,k1⟩:=LgF.all b.y
 obtain ⟨x2,h2⟩:=LgF.all c.x
 obtain ⟨y2,k2⟩:=LgF.all c.y
 obtain ⟨x3,h3⟩:=LgF.all d.x
 obtain ⟨y3,k3⟩:=LgF.all d.y
 exact ⟨_,⟨x0,y0,x1,y1,x2,y2,x3,y3,h0,k0,h1,k1,h2,k2,h3,k3,rfl⟩⟩
def sLong4 (T:TypeId) (a b c d:Gn) {r:Bool} (h:Lg4 a b c d r):BSpec Tryz.prog :=
 ⟨139,Tryz.call139,lgA,lgCells a.x a.y b.x b.y c.x c.y d.x d.y,T,.bool r,fun β w hh=>by
  obtain ⟨x0,y0,x1,y1,x2,y2,x3,y3,h0,k0,h1,k1,h2,k2,h3,k3,rfl⟩:=h.is
  exact long4_ok h0 k0 h1 k1 h2 k2 h3 k3 β w hh,by kernel_rfl,fun _=>rfl⟩
end Go.Proofs.YtbepimnlleilfaaGreat.Y
end
