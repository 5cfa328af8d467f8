/- MpT, MpA, SpT, Open, OpnB, OpnP. -/
import Derived.MapKept
import Derived.ProofKit
import Derived.OpenShut
import Derived.ShutString
import Derived.ChangeOld
import Derived.Below
import Derived.Test.YtdiemgedlfnlmaaGreatPk11
set_option linter.unnecessarySimpa false
set_option linter.unusedVariables false
set_option linter.unusedSimpArgs false
section
namespace Go.Proofs.YtdiemgedlfnlmaaGreat.Y
open Go Go.RowKit
set_option maxRecDepth 100000
def mapT (es:Array MapEntry) (clk:Nat):Thing:=thing (fun w g=>(∀ c,g.F c↔c=g.b)∧g.u 0=.map (some g.b)∧w.heap[g.b]?=some (.map es clk))
 ⟨fun w g h c hc=>by rw [(h.1 c).1 hc]; exact heap_lt h.2.2,fun w w' g h k=>⟨h.1,h.2.1,by rw [k.block g.b (heap_lt h.2.2)]; exact h.2.2⟩,
  fun w w' g b o n m h hs ht hF=>⟨h.1,h.2.1,by rw [ht.block g.b (heap_lt h.2.2) (fun e=>hF ((h.1 _).2 e.symm))]; exact h.2.2⟩⟩
def mapO (es:Array MapEntry) (clk:Nat):Ob:=.ow (mapT es clk) 9
theorem mp_make (t:TypeId) (β:Env) (w:World) (ρ:Operand→Value) (o:Oper) (n:Nat) (ho:o.op=.makeMap t none) :
  ∃ (g:Pl) (w':World),(execOp ρ o).run Tryz.prog w=.ok (.value ((SV.one (.c (.b (.gh n 0)))).den (extE β n [g]))) w'∧(mapO #[] 0).holds (extE β n [g]) w' g∧Grow β w w' none g∧owF β [] none g:=by
 refine ⟨⟨w.heap.size,fun _=>none,fun _=>0,fun c=>c=w.heap.size,fun _=>.map (some w.heap.size)⟩,w.alloc (.map #[] 0),?_,⟨⟨rfl,by decide,_,(MapKept.heap_alloc w _).1⟩,fun c=>Iff.rfl,rfl,(MapKept.heap_alloc w _).1⟩,.inl ⟨Nat.le_refl _,⟨rfl,rfl,rfl,by simp [alloc_heap],fun k hk=>(MapKept.heap_alloc w _).2 k hk⟩⟩,fun c hc=>.inl hc⟩
 have e:(SV.one (.c (.b (.gh n 0)))).den (extE β n [(⟨w.heap.size,fun _=>none,fun _=>0,fun c=>c=w.heap.size,fun _=>.map (some w.heap.size)⟩:Pl)])=.map (some w.heap.size):=by
  have:=extE_in (β:=β) (n:=n) (xs:=[(⟨w.heap.size,fun _=>none,fun _=>0,fun c=>c=w.heap.size,fun _=>.map (some w.heap.size)⟩:Pl)]) (i:=0) rfl
  simp only [Nat.add_zero] at this
  simp only [SV.den,SC.den,Lf.den,Lf0.den,this]
 rw [e]
 unfold execOp
 rw [ho]
 rfl
def eMapMk:Ev Tryz.prog:=.dynU (fun o _ _=>match o.op,o.dst with
 | .makeMap _ none,some _=>true
 | _,_=>false) fun o _ ob=>match o.op,o.dst with
 | .makeMap t none,some d=>lit ob.length fun n=>.upd (some d) (.makeMap t none) (fun _=>[]) [] none n (mapO #[] 0) (.one (.c (.b (.gh n 0)))) (fun β w _ _ ρ o ho _=>mp_make t β w ρ o n ho)
 | _,_=>.cut
def owAt:List Ob→Nat→Nat
 | [],_=>0
 | .ow _ _::_,k=>k
 | _::r,k=>owAt r (k+1)
theorem mp_hold {es:Array MapEntry} {clk k:Nat} {β:Env} {w:World} (h:holdsAll β w [(k,mapO es clk)]):(β k).u 0=.map (some (β k).b)∧w.heap[(β k).b]?=some (.map es clk):=by
 have h1:(mapO es clk).holds β w (β k):=h _ (List.mem_singleton.2 rfl)
 exact h1.2.2
structure LookT (T:TypeId) (es:Array MapEntry) (key:Value) (v:Value) (b:Bool):Prop where
 run:∀ (r:Nat) (clk:Nat) (w:World),w.heap[r]?=some (.map es clk)→(Instr.lookup T (.map (some r)) key true).run Tryz.prog w=.ok (.tuple #[v,.bool b]) w
theorem mp_look {T:TypeId} {es:Array MapEntry} {key v:Value} {b:Bool} (L:LookT T es key v b) {clk k:Nat} (sv:Lf0) (hs:∀ β,sv.den β=v) (x y:Operand) (β:Env) (w:World) (h:holdsAll β w [(k,mapO es clk)]) (ρ:Operand→Value) (o:Oper) (ho:o.op=.lookup T x y true)
  (hx:(Op.lookup T x y true).operands.toList.map ρ=[(β k).u 0,key]):∃ ys w',fresh β w [(k,mapO es clk)] ys∧(execOp ρ o).run Tryz.prog w=.ok (.value ((SV.tup [.c (.b sv),.c (.b (.v (.bool b)))]).den (extE β 0 ys))) w'∧newHold w' [] ys∧Below w.heap.size w w':=by
 obtain ⟨h1,h2⟩:=mp_hold h
 refine ⟨[],w,(fun _ h=>by cases h),?_,trivial,Below.refl _ _⟩
 have h3:ρ x=.map (some (β k).b)∧ρ y=key:=by simpa [Op.operands,h1] using hx
 unfold execOp
 rw [ho]
 dsimp only
 rw [h3.1,h3.2]
 have h4:=L.run (β k).b clk w h2
 have e:((SV.tup [.c (.b sv),.c (.b (.v (.bool b)))]).den (extE β 0 []))=.tuple #[v,.bool b]:=by
  show Value.tuple (List.toArray [sv.den (extE β 0 []),.bool b])=_
  rw [hs]
 rw [e]
 simp [go_sem,h4]
def eLook {T:TypeId} {es:Array MapEntry} {key v:Value} {b:Bool} (L:LookT T es key v b) (clk:Nat) (sv:Lf0) (hs:∀ β,sv.den β=v):Ev Tryz.prog:=.dyn (fun o _ _=>match o.op with
 | .lookup t _ _ true=>Nat.beq t T
 | _=>false) fun o _ ob=>match o.op with
 | .lookup _ x y true=>lit (owAt ob 0) fun k=>.rd (o.dst.getD 0) (.lookup T x y true) (fun β=>[(β k).u 0,key]) [(k,mapO es clk)] 0 (.tup [.c (.b sv),.c (.b (.v (.bool b)))]) [] (fun β w h ρ o ho hx=>mp_look L sv hs x y β w h ρ o ho hx)
 | _=>.cut
structure PutT (T:TypeId) (es:Array MapEntry) (key v:Value):Prop where
 run:∀ (r:Nat) (clk:Nat) (w:World),w.heap[r]?=some (.map es clk)→(Instr.mapUpdate T (.map (some r)) key v).run Tryz.prog w=.ok () { w with heap:=w.heap.setIfInBounds r (.map (es.push ⟨key,v,clk⟩) (clk+1)) }
theorem mp_put {T:TypeId} {es:Array MapEntry} {key v:Value} (L:PutT T es key v) {clk k:Nat} (x y z:Operand) (β:Env) (w:World) (h:(mapO es clk).holds β w (β k)) (ρ:Operand→Value) (o:Oper) (ho:o.op=.mapUpdate T x y z)
  (hx:(Op.mapUpdate T x y z).operands.toList.map ρ=[(β k).u 0,key,v]):∃ w':World,(execOp ρ o).run Tryz.prog w=.ok .skip w'∧(mapO (es.push ⟨key,v,clk⟩) (clk+1)).holds β w' (β k)∧NW w (β k).b∧∃ o n,Touch w w' (β k).b o n:=by
 obtain ⟨⟨hF,_,_⟩,h0,h1,h2⟩:=h
 have hs:=MapKept.heap_set (o':=.map (es.push ⟨key,v,clk⟩) (clk+1)) h2
 refine ⟨{ w with heap:=w.heap.setIfInBounds (β k).b (.map (es.push ⟨key,v,clk⟩) (clk+1)) },?_,⟨⟨hF,by decide,_,hs.1⟩,h0,h1,hs.1⟩,(fun cs fr e=>by rw [h2] at e; cases e),0,0,⟨rfl,rfl,rfl,by simp,fun i hi hn=>hs.2 i hn,fun cs t fr e=>by rw [h2] at e; cases e⟩⟩
 have h3:ρ x=.map (some (β k).b)∧ρ y=key∧ρ z=v:=by simpa [Op.operands,h1] using hx
 unfold execOp
 rw [ho]
 dsimp only
 rw [h3.1,h3.2.1,h3.2.2]
 have h4:=L.run (β k).b clk w h2
 simp [go_sem,h4]
def eMapPut {T:TypeId} {es:Array MapEntry} {key v:Value} (L:PutT T es key v) (clk:Nat):Ev Tryz.prog:=.dynU (fun o _ _=>match o.op with
 | .mapUpdate t _ _ _=>Nat.beq t T
 | _=>false) fun o _ ob=>match o.op with
 | .mapUpdate _ x y z=>lit (owAt ob 0) fun k=>.chg (.mapUpdate T x y z) (fun β=>[(β k).u 0,key,v]) [] k (mapO es clk) (mapO (es.push ⟨key,v,clk⟩) (clk+1)) (fun β w _ h ρ o ho hx=>mp_put L x y z β w h ρ o ho hx)
 | _=>.cut
section
variable {T kt et:TypeId} {es:Array MapEntry} {key:Value} (hu:Tryz.prog.underlying T=some (.map kt et)) (hck:∀ w,(Instr.checkKey es.isEmpty 10000 kt key).run Tryz.prog w=.ok () w)
include hu hck
theorem look_yes {i:Nat} {v:Value} (hf:∀ w,(Instr.findKey kt key es.toList).run Tryz.prog w=.ok (some (i,v)) w):LookT T es key v true:=⟨fun r clk w h=>by
 unfold Instr.lookup
 simp only [Sem.run_bind,run_underlying hu,MapKept.run_getObj_map h,hck,hf,Result.andThen,Sem.run_pure]
 rfl⟩
theorem look_no {z:Value} (hz:∀ w,(zeroValue et).run Tryz.prog w=.ok z w) (hf:∀ w,(Instr.findKey kt key es.toList).run Tryz.prog w=.ok none w):LookT T es key z false:=⟨fun r clk w h=>by
 unfold Instr.lookup
 simp only [Sem.run_bind,run_underlying hu,MapKept.run_getObj_map h,hck,hf,hz,Result.andThen,Sem.run_pure]
 rfl⟩
end
theorem put_new {T kt et:TypeId} {es:Array MapEntry} {key:Value} (hu:Tryz.prog.underlying T=some (.map kt et)) (hck:∀ w,(Instr.checkKey false 10000 kt key).run Tryz.prog w=.ok () w) (hf:∀ w,(Instr.findKey kt key es.toList).run Tryz.prog w=.ok none w) (v:Value):PutT T es key v:=⟨fun r clk w h=>by
 unfold Instr.mapUpdate
 simp only [Sem.run_bind,run_underlying hu,MapKept.run_getObj_map h,hck,hf,Result.andThen,MapKept.run_setObj_map _ h]⟩
abbrev al3P:Pp:=ppt (kq 1 0) (kq_fit (n:=1) (m:=0) (by decide) (by decide))
abbrev al3Q:Pp:=ppt (kq 2 0) (kq_fit (n:=2) (m:=0) (by decide) (by decide))
abbrev ck3A:List SV:=[.one (.c (.b (.s 0 0 3 3))),ck2F]
theorem ck3Idx_ok (β:Env) (w:World) (hh:(Ob.box al3L PTT).holds β w (β 0)) :
  Calls Tryz.prog 310 (ck3A.map (SV.den β)).toArray w fun e w'=>e=.returned (.int .i64 (-1))∧Below w.heap.size w w' :=
 bspec_ok [(sChkW al3P (b:=true) rfl).e,(sChkW al3Q (b:=true) rfl).e,(sChkW al3P (b:=true) rfl).e] [] 800 Tryz.func310 hmA (fun β=>by kernel_rfl) (by kernel_rfl) (fun β=>rfl) β w hh
noncomputable def sCk3Idx:BSpec Tryz.prog :=
 ⟨310,Tryz.call310,ck3A,al3L,PTT,.int .i64 (-1),ck3Idx_ok,by kernel_rfl,fun _=>rfl⟩
theorem ck3Has_ok (β:Env) (w:World) (hh:(Ob.box al3L PTT).holds β w (β 0)) :
  Calls Tryz.prog 214 (ck3A.map (SV.den β)).toArray w fun e w'=>e=.returned (.bool false)∧Below w.heap.size w w' :=
 bspec_ok [sCk3Idx.e] [] 800 Tryz.func214 hmA (fun β=>by kernel_rfl) (by kernel_rfl) (fun β=>rfl) β w hh
noncomputable def sCk3Has:BSpec Tryz.prog :=
 ⟨214,Tryz.call214,ck3A,al3L,PTT,.bool false,ck3Has_ok,by kernel_rfl,fun _=>rfl⟩
theorem check3_ok (β:Env) (w:World) (hh:(Ob.box al3L PTT).holds β w (β 0)) :
  Calls Tryz.prog 148 (al3A.map (SV.den β)).toArray w fun e w'=>e=.returned (.int .i64 0)∧Below w.heap.size w w' :=
 bspec_ok [sCk3Has.e] [] 800 Tryz.func148 hmA (fun β=>by kernel_rfl) (by kernel_rfl) (fun β=>rfl) β w hh
noncomputable def sCheck3:BSpec Tryz.prog :=
 ⟨148,Tryz.call148,al3A,al3L,PTT,.int .i64 0,check3_ok,by kernel_rfl,fun _=>rfl⟩
abbrev MPT:TypeId:=301
abbrev akV (p:Pt):Value:=.agg ((pw p).map (Lf.den idE)).toArray
abbrev akE0:Array MapEntry:=#[]
abbrev akE1:Array MapEntry:=akE0.push ⟨akV (kq 1 0),.int .i64 0,0⟩
abbrev akE2:Array MapEntry:=akE1.push ⟨akV (kq 2 0),.int .i64 1,1⟩
theorem ak_hu:Tryz.prog.underlying MPT=some (.map PTT 3):=by kernel_rfl
theorem ak_ck (b:Bool) (p:Pt) (h:p=kq 1 0∨p=kq 2 0):∀ w,(Instr.checkKey b 10000 PTT (akV p)).run Tryz.prog w=.ok () w:=by
 rcases h with rfl | rfl<;>cases b<;>exact fun w=>by kernel_rfl
theorem ak_z:∀ w,(zeroValue 3).run Tryz.prog w=.ok (.int .i64 0) w:=fun w=>by kernel_rfl
theorem ak_l0:LookT MPT akE0 (akV (kq 1 0)) (.int .i64 0) false:=look_no ak_hu (ak_ck _ _ (.inl rfl)) ak_z fun w=>by kernel_rfl
theorem ak_l1:LookT MPT akE1 (akV (kq 2 0)) (.int .i64 0) false:=look_no ak_hu (ak_ck _ _ (.inr rfl)) ak_z fun w=>by kernel_rfl
theorem ak_l2:LookT MPT akE2 (akV (kq 1 0)) (.int .i64 0) true:=look_yes ak_hu (ak_ck _ _ (.inl rfl)) (i:=0) fun w=>by kernel_rfl
theorem ak_p0:PutT MPT akE0 (akV (kq 1 0)) (.int .i64 0):=put_new ak_hu (ak_ck _ _ (.inl rfl)) (fun w=>by kernel_rfl) _
theorem ak_p1:PutT MPT akE1 (akV (kq 2 0)) (.int .i64 1):=put_new ak_hu (ak_ck _ _ (.inr rfl)) (fun w=>by kernel_rfl) _
noncomputable def akEv:List (Ev Tryz.prog) :=
 [sCheck3.e,eMapMk,eLook ak_l0 0 (.v (.int .i64 0)) (fun _=>rfl),eMapPut ak_p0 0,eLook ak_l1 1 (.v (.int .i64 0)) (fun _=>rfl),eMapPut ak_p1 1,eLook ak_l2 2 (.v (.int .i64 0)) (fun _=>rfl)]
theorem alike3:AlikeT:=fun β w hh =>
 bspec_ok akEv [] 2000 Tryz.func144 hmA (fun β=>by kernel_rfl) (by kernel_rfl) (fun β=>rfl) β w hh
theorem sptL {k:Nat} {s:ByteArray} (h:big k s=false):s.size≤k:=by
 have:=of_decide_eq_false h
 omega
theorem sptQ {k:Nat} {x y:R4} (h:smB k x y=true):(x.s.size≤k∧x.t.size≤k)∧y.s.size≤k∧y.t.size≤k:=by
 unfold smB at h
 simp only [Bool.not_eq_true',Bool.or_eq_false_iff] at h
 exact ⟨⟨sptL h.1,sptL h.2.1⟩,sptL h.2.2.1,sptL h.2.2.2⟩
theorem spt_sz {k:Nat} {p:Pt} (h:p.w.sm k=true):PSz k p:=by
 cases p
 · trivial
 · obtain ⟨⟨h1,h2⟩,h3,h4⟩:=sptQ h
   exact ⟨⟨h1,by rw [sz_nat]; exact h2⟩,⟨h3,by rw [sz_nat]; exact h4⟩⟩
theorem _root_.Go.Proofs.YtdiemgedlfnlmaaGreat.SphereTwo_walk (x y:Rw) (hx:x.ok) (hy:y.ok) (w:World) :
  Calls Tryz.prog 4 #[.agg (.bool x.i::(x.x.V++x.y.V)).toArray,.agg (.bool y.i::(y.x.V++y.y.V)).toArray] w fun e w'=>e=.returned (.bool true)∧Below w.heap.size w w':=by
 obtain ⟨p,rfl⟩:=pp_of x hx
 obtain ⟨q,rfl⟩:=pp_of y hy
 cases h:(p.w.sm 80&&q.w.sm 80) with
 | false=>exact spec_yes (st1 alike3 p q h) rfl rfl w
 | true=>cases n:(p.B&&q.B) with
  | false=>exact spec_yes (st2 alike3 p q h n) rfl rfl w
  | true =>
   rw [Bool.and_eq_true] at n
   obtain ⟨P,hP,rfl⟩:=Pp.good n.1
   obtain ⟨Q,hQ,rfl⟩:=Pp.good n.2
   rw [ppt_w,ppt_w] at h ⊢
   have h2:=h
   rw [Bool.and_eq_true] at h2
   exact spec_yes (st3 alike3 hP hQ h (rch_fit (spt_sz h2.1) (spt_sz h2.2))) rfl rfl w
end Go.Proofs.YtdiemgedlfnlmaaGreat.Y
end
section
namespace Go.Proofs.YtdiemgedlfnlmaaGreat
open Go.ChangeShapes Go.WideShapes Go.ChangeAt Go.RowKit
theorem cellsOf_bool:Tryz.prog.cellsOf 4=1:=by kernel_rfl
theorem cellsOf_string:Tryz.prog.cellsOf 9=1:=by kernel_rfl
theorem cellsOf_whole:Tryz.prog.cellsOf 23=2:=by kernel_rfl
theorem cellsOf_frac:Tryz.prog.cellsOf 25=4:=by kernel_rfl
section
variable {H:Type} {enc:TypeId × Value→H} {w:World} {base:Nat} {spare:Nat→Bool} {held:Bool}
set_option maxRecDepth 100000 in
theorem trod_whole {fuel:Nat} {cs:List Value} {x:DataW H × List MemPlace} (h:DataW.trod enc Tryz.prog w base spare held fuel 23 cs=some x) :
  ∃ (b:Bool) (s:ByteArray),cs=[.bool b,.string s]∧s.size≤maxLen:=by
 obtain ⟨xs,n,rfl,_,hlen,hxl,hf⟩:=DataW.trod_struct Tryz.underlying23 h
 rw [cellsOf_whole] at hlen
 have hx0:xs[0]?=some (xs[0]'(by rw [hxl]; decide)):=List.getElem?_eq_getElem _
 have hx1:xs[1]?=some (xs[1]'(by rw [hxl]; decide)):=List.getElem?_eq_getElem _
 have h0:DataW.trod enc Tryz.prog w base spare held n 4 ((cs.drop 0).take (Tryz.prog.cellsOf 4))=some _:=(hf 0 _ rfl).trans hx0
 have h1:DataW.trod enc Tryz.prog w base spare held n 9 ((cs.drop 1).take (Tryz.prog.cellsOf 9))=some _:=(hf 1 _ rfl).trans hx1
 rw [cellsOf_bool] at h0
 rw [cellsOf_string] at h1
 match cs,hlen with
 | [a,b],_ =>
  obtain ⟨p,e0,_⟩:=DataW.trod_bool Tryz.underlying4 h0
  obtain ⟨s,e1,_,hs⟩:=DataW.trod_string Tryz.underlying9 h1
  cases e0
  cases e1
  exact ⟨p,s,rfl,hs⟩
set_option maxRecDepth 100000 in
theorem trod_frac {fuel:Nat} {cs:List Value} {x:DataW H × List MemPlace} (h:DataW.trod enc Tryz.prog w base spare held fuel 25 cs=some x) :
  ∃ (b c:Bool) (s t:ByteArray),cs=[.bool b,.string s,.bool c,.string t]∧s.size≤maxLen∧t.size≤maxLen:=by
 obtain ⟨xs,n,rfl,_,hlen,hxl,hf⟩:=DataW.trod_struct Tryz.underlying25 h
 rw [cellsOf_frac] at hlen
 have hx0:xs[0]?=some (xs[0]'(by rw [hxl]; decide)):=List.getElem?_eq_getElem _
 have hx1:xs[1]?=some (xs[1]'(by rw [hxl]; decide)):=List.getElem?_eq_getElem _
 have h0:DataW.trod enc Tryz.prog w base spare held n 23 ((cs.drop 0).take (Tryz.prog.cellsOf 23))=some _:=(hf 0 _ rfl).trans hx0
 have h1:DataW.trod enc Tryz.prog w base spare held n 23 ((cs.drop 2).take (Tryz.prog.cellsOf 23))=some _:=(hf 1 _ rfl).trans hx1
 rw [cellsOf_whole] at h0 h1
 match cs,hlen with
 | [a,b,c,d],_ =>
  obtain ⟨p,s,e0,hs⟩:=trod_whole h0
  obtain ⟨q,t,e1,ht⟩:=trod_whole h1
  cases e0
  cases e1
  exact ⟨p,q,s,t,rfl,hs,ht⟩
end
end Go.Proofs.YtdiemgedlfnlmaaGreat
end
section
namespace Go.Proofs.YtdiemgedlfnlmaaGreat
open Go Go.ChangeShapes Go.WideShapes Go.ChangeAt Go.RowKit
theorem cellsOf_gauss:Tryz.prog.cellsOf 37=8:=by kernel_rfl
theorem cellsOf_point:Tryz.prog.cellsOf 39=9:=by kernel_rfl
theorem chunk {α:Type} (cs:List α) (a b:Nat):cs.drop a=(cs.drop a).take b++cs.drop (a+b):=by
 rw [← List.drop_drop,List.take_append_drop]
def R4.ok (x:R4):Prop:=x.s.size≤maxLen∧x.t.size≤maxLen
section
variable {H:Type} {enc:TypeId × Value→H} {w:World} {base:Nat} {spare:Nat→Bool} {held:Bool}
theorem trod_r4 {fuel:Nat} {cs:List Value} {x:DataW H × List MemPlace} (h:DataW.trod enc Tryz.prog w base spare held fuel 25 cs=some x):∃ r:R4,cs=r.V∧r.ok:=by
 obtain ⟨b,c,s,t,e,h1,h2⟩:=trod_frac h
 exact ⟨⟨b,s,c,t⟩,e,h1,h2⟩
set_option maxRecDepth 100000 in
theorem trod_gauss {fuel:Nat} {cs:List Value} {x:DataW H × List MemPlace} (h:DataW.trod enc Tryz.prog w base spare held fuel 37 cs=some x):∃ r s:R4,cs=r.V++s.V∧r.ok∧s.ok:=by
 obtain ⟨xs,n,rfl,_,hlen,hxl,hf⟩:=DataW.trod_struct Tryz.underlying37 h
 rw [cellsOf_gauss] at hlen
 have hx0:xs[0]?=some (xs[0]'(by rw [hxl]; decide)):=List.getElem?_eq_getElem _
 have hx1:xs[1]?=some (xs[1]'(by rw [hxl]; decide)):=List.getElem?_eq_getElem _
 have h0:DataW.trod enc Tryz.prog w base spare held n 25 ((cs.drop 0).take (Tryz.prog.cellsOf 25))=some _:=(hf 0 _ rfl).trans hx0
 have h1:DataW.trod enc Tryz.prog w base spare held n 25 ((cs.drop 4).take (Tryz.prog.cellsOf 25))=some _:=(hf 1 _ rfl).trans hx1
 rw [cellsOf_frac] at h0 h1
 obtain ⟨r,e0,k0⟩:=trod_r4 h0
 obtain ⟨s,e1,k1⟩:=trod_r4 h1
 refine ⟨r,s,?_,k0,k1⟩
 have:=chunk cs 0 4
 rw [e0,List.drop_zero] at this
 rw [this,chunk cs (0+4) 4,e1,List.drop_of_length_le (by omega),List.append_nil]
set_option maxRecDepth 100000 in
theorem trod_point {fuel:Nat} {cs:List Value} {x:DataW H × List MemPlace} (h:DataW.trod enc Tryz.prog w base spare held fuel 39 cs=some x):∃ (i:Bool) (r s:R4),cs=.bool i::(r.V++s.V)∧r.ok∧s.ok:=by
 obtain ⟨xs,n,rfl,_,hlen,hxl,hf⟩:=DataW.trod_struct Tryz.underlying39 h
 rw [cellsOf_point] at hlen
 have hx0:xs[0]?=some (xs[0]'(by rw [hxl]; decide)):=List.getElem?_eq_getElem _
 have hx1:xs[1]?=some (xs[1]'(by rw [hxl]; decide)):=List.getElem?_eq_getElem _
 have h0:DataW.trod enc Tryz.prog w base spare held n 4 ((cs.drop 0).take (Tryz.prog.cellsOf 4))=some _:=(hf 0 _ rfl).trans hx0
 have h1:DataW.trod enc Tryz.prog w base spare held n 37 ((cs.drop 1).take (Tryz.prog.cellsOf 37))=some _:=(hf 1 _ rfl).trans hx1
 rw [cellsOf_bool] at h0
 rw [cellsOf_gauss] at h1
 obtain ⟨r,s,e1,k1⟩:=trod_gauss h1
 have e3:cs.drop 1=r.V++s.V:=by
  have:=chunk cs 1 8
  rw [e1] at this
  rw [this,List.drop_of_length_le (show cs.length≤1+8 by omega),List.append_nil]
 have e2:cs=cs.take 1++(r.V++s.V):=by rw [← e3,List.take_append_drop]
 match hc:(cs.take 1),(show (cs.take 1).length=1 by rw [List.length_take]; omega) with
 | [a],_ =>
  rw [List.drop_zero,hc] at h0
  obtain ⟨i,e0,_⟩:=DataW.trod_bool Tryz.underlying4 h0
  refine ⟨i,r,s,?_,k1⟩
  rw [hc] at e2
  rw [e2]
  cases e0
  rfl
end
section
variable {H:Type} {enc:TypeId × Value→H} {w:World} {base:Nat} {spare:Nat→Bool} {held:Bool}
set_option maxRecDepth 100000 in
theorem open_pt {r:Reach} {b0:Nat} {v:Value} {d:DataW H} {p:List MemPlace} (hv:Value.okWide Tryz.prog w r b0 39 v) (h:DataW.Trod enc Tryz.prog w base spare held 39 v d p) :
  ∃ (i:Bool) (x y:R4),v=.agg (.bool i::(x.V++y.V)).toArray∧x.ok∧y.ok:=by
 obtain ⟨cs,rfl,hsz⟩:=okWide_struct Tryz.underlying39 hv
 obtain ⟨fuel,hf⟩:=h
 obtain ⟨l⟩:=cs
 obtain ⟨i,a,b,rfl,hh⟩:=trod_point hf
 exact ⟨i,a,b,rfl,hh⟩
end
end Go.Proofs.YtdiemgedlfnlmaaGreat
end
