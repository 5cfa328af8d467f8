/- SyA. -/
import Derived.Orders
import Derived.LoopN
import Derived.Scope
import Derived.StillTail
import Derived.WalkKit
import Derived.Test.YthkpghhoffihmaaGreatDoorGk6
set_option linter.unnecessarySimpa false
set_option linter.unusedVariables false
set_option linter.unusedSimpArgs false
section
namespace Go.Proofs.YthkpghhoffihmaaGreatDoor.Y
section
open Go Go.RowKit
def isScalar:Value→Bool
 | .agg _=>false
 | .tuple _=>false
 | _=>true
structure Pl where
 b:Nat
 v:Nat→Option Addr
 c:Nat→Nat
 F:Nat→Prop
 u:Nat→Value
instance:CoeOut Pl Nat:=⟨Pl.b⟩
abbrev Env:=Nat→Pl
inductive Lf0 where
 | v (x:Value)
 | p (k o:Nat)
 | s (k o n c:Nat)
 | z (k i:Nat)
 | y (k i n:Nat)
 | r (k n:Nat)
 | gh (k i:Nat)
inductive Lf where
 | b (l:Lf0)
 | f (fn:Fn) (first cap:List Lf0)
inductive SC where
 | c (l:Lf)
 | a (ls:List Lf)
inductive SV where
 | one (x:SC)
 | tup (xs:List SC)
def Lf0.den (β:Env):Lf0→Value
 | .v x=>x
 | .p k o=>.pointer (some ⟨(β k).b,o,none⟩)
 | .s k o n c=>.slice (some ⟨(β k).b,o,none⟩) n c
 | .z k i=>.pointer ((β k).v i)
 | .y k i n=>.slice ((β k).v i) n ((β k).c i)
 | .r k n=>.slice (some ⟨(β k).b,0,none⟩) n ((β k).c 0)
 | .gh k i=>(β k).u i
def Lf.den (β:Env):Lf→Value
 | .b l=>l.den β
 | .f fn x y=>.func fn (x.map (Lf0.den β)).toArray (y.map (Lf0.den β)).toArray
def SC.den (β:Env):SC→Value
 | .c l=>l.den β
 | .a ls=>.agg (ls.map (Lf.den β)).toArray
def SV.den (β:Env):SV→Value
 | .one x=>x.den β
 | .tup xs=>.tuple (xs.map (SC.den β)).toArray
def tblN:List Nat:=[0,1,2,3,4,5,6,7,8,9,10,11,12,13,14,15,16,17,18,19,20,21,22,23,24,25,26,27,28,29,30,31,32,33,34,35,36,37,38,39,40,41,42,43,44,45,46,47,48,49,50,51,52,53,54,55,56,57,58,59,60,61,62,63,64,65,66,67,68,69,70,71,72,73,74,75,76,77,78,79,80,81,82,83,84,85,86,87,88,89,90,91,92,93,94,95,96,97,98,99,100,101,102,103,104,105,106,107,108,109,110,111,112,113,114,115,116,117,118,119,120,121,122,123,124,125,126,127,128,129,130,131,132,133,134,135,136,137,138,139,140,141,142,143,144,145,146,147,148,149,150,151,152,153,154,155,156,157,158,159,160,161,162,163,164,165,166,167,168,169,170,171,172,173,174,175,176,177,178,179,180,181,182,183,184,185,186,187,188,189,190,191,192,193,194,195,196,197,198,199,200,201,202,203,204,205,206,207,208,209,210,211,212,213,214,215,216,217,218,219,220,221,222,223,224,225,226,227,228,229,230,231,232,233,234,235,236,237,238,239,240,241,242,243,244,245,246,247,248,249,250,251,252,253,254,255]
def lit {α:Type} (n:Nat) (k:Nat→α):α:=match tblN[n]? with
 | some m=>k m
 | none=>k n
theorem tblN_eq:tblN=List.range 256:=by kernel_rfl
theorem lit_eq {α:Type} (n:Nat) (k:Nat→α):lit n k=k n:=by
 unfold lit
 rw [tblN_eq]
 by_cases h:n<256
 · rw [List.getElem?_range h]
 · rw [List.getElem?_eq_none (by rw [List.length_range]; omega)]
def idE:Env:=fun k=>⟨k,fun i=>some ⟨k,i,some 0⟩,fun _=>0,fun _=>False,fun _=>undef⟩
def tag0:Value→Lf0
 | .pointer (some ⟨b,o,none⟩)=>lit b fun b=>lit o fun o=>.p b o
 | .pointer (some ⟨b,o,some _⟩)=>lit b fun b=>lit o fun o=>.z b o
 | .slice (some ⟨b,o,none⟩) n c=>lit b fun b=>lit o fun o=>.s b o n c
 | .slice (some ⟨b,o,some _⟩) n _=>lit b fun b=>lit o fun o=>.y b o n
 | x=>.v x
def tag1:Value→Lf
 | .func fn x y=>.f fn (x.toList.map tag0) (y.toList.map tag0)
 | x=>.b (tag0 x)
def tagC:Value→SC
 | .agg cs=>.a (cs.toList.map tag1)
 | x=>.c (tag1 x)
def tag:Value→SV
 | .tuple xs=>.tup (xs.toList.map tagC)
 | x=>.one (tagC x)
def Lf0.of (q:Nat→Bool):Lf0→Bool
 | .v _=>true
 | .p k _=>q k
 | .s k _ _ _=>q k
 | .z k _=>q k
 | .y k _ _=>q k
 | .r k _=>q k
 | .gh k _=>q k
def Lf.of (q:Nat→Bool):Lf→Bool
 | .b l=>l.of q
 | .f _ x y=>x.all (Lf0.of q)&&y.all (Lf0.of q)
def SC.of (q:Nat→Bool):SC→Bool
 | .c l=>l.of q
 | .a ls=>ls.all (Lf.of q)
def SV.of (q:Nat→Bool):SV→Bool
 | .one x=>x.of q
 | .tup xs=>xs.all (SC.of q)
def Lf.scalar:Lf→Bool
 | .b (.v x)=>isScalar x
 | .b (.gh _ _)=>false
 | _=>true
structure Stable (D:World→Pl→Prop):Prop where
 lt:∀ w g,D w g→∀ c,g.F c→c<w.heap.size
 below:∀ w w' g,D w g→Below w.heap.size w w'→D w' g
 touch:∀ w w' g b o n (m:Nat),D w g→NW w b→Touch w w' b o n→¬ g.F b→D w' g
def nilPl:Pl:=⟨0,fun _=>none,fun _=>0,fun _=>False,fun _=>undef⟩
structure Thing where
 D:World→Pl→Prop
 st:Stable D
 tg:Nat
 D0:World→Pl→Prop
 st0:Stable D0
 imp:∀ w g,D w g→D0 w g
 nl:Bool
 nlok:nl=true→∀ w,D w nilPl
 nl0:Bool
 nlok0:nl0=true→∀ w,D0 w nilPl
 cl:Bool
 clok:cl=true→∀ w g,D w g→∀ c,g.F c→∃ cs t fr,w.heap[c]?=some (.cells cs t fr)
 cl0:Bool
 clok0:cl0=true→∀ w g,D0 w g→∀ c,g.F c→∃ cs t fr,w.heap[c]?=some (.cells cs t fr)
def Thing.weak (t:Thing):Thing:=⟨t.D0,t.st0,0,t.D0,t.st0,fun _ _ h=>h,t.nl0,t.nlok0,t.nl0,t.nlok0,t.cl0,t.clok0,t.cl0,t.clok0⟩
def thing (D:World→Pl→Prop) (st:Stable D):Thing:=⟨D,st,0,D,st,fun _ _ h=>h,false,fun h=>(Bool.noConfusion h),false,fun h=>(Bool.noConfusion h),false,fun h=>(Bool.noConfusion h),false,fun h=>(Bool.noConfusion h)⟩
def thingC (D:World→Pl→Prop) (st:Stable D) (h:∀ w g,D w g→∀ c,g.F c→∃ cs t fr,w.heap[c]?=some (.cells cs t fr)):Thing:=⟨D,st,0,D,st,fun _ _ h=>h,false,fun h=>(Bool.noConfusion h),false,fun h=>(Bool.noConfusion h),true,fun _=>h,true,fun _=>h⟩
inductive Ob where
 | box (cs:List Lf) (t:TypeId)
 | th (D:Thing)
 | al (r:Nat) (D:Thing)
 | pl (n:Nat)
 | row (cs:List Lf) (t:TypeId) (n sz:Nat)
 | ow (D:Thing) (t:TypeId)
 | dead
def Pl.one (g:Pl):Prop:=(∀ c,g.F c↔c=g.b)∧∀ i,g.v i=some ⟨g.b,i,none⟩
def Ob.holds (β:Env) (w:World) (g:Pl):Ob→Prop
 | .box cs t=>g.one∧w.heap[g.b]?=some (.cells (cs.map (Lf.den β)).toArray t (0,0))
 | .th D=>D.D w g
 | .al _ D=>D.D w g
 | .pl n=>g.one∧Slot w g.b 0 n
 | .row cs t n sz=>g.one∧∃ cur,w.heap[g.b]?=some (.cells cur t (0,0))∧cs.length=n*sz∧n≤g.c 0∧g.c 0≤maxLen∧cur.size=g.c 0*sz∧cur.toList.take (n*sz)=cs.map (Lf.den β)
 | .ow D t=>(g.F g.b∧t≠278∧∃ cur:Obj,w.heap[g.b]?=some cur)∧D.D w g
 | .dead=>True
def Ob.layOf:Ob→Option (List Lf × TypeId)
 | .box cs t=>some (cs,t)
 | .row cs t _ _=>some (cs,t)
 | .ow _ t=>some ([],t)
 | _=>none
def Ob.isOw:Ob→Bool
 | .ow _ _=>true
 | _=>false
def layAt (ob:List Ob) (i:Nat):Option (List Lf × TypeId):=match ob[i]? with
 | some (.box cs t)=>some (cs,t)
 | some (.row cs t _ _)=>some (cs,t)
 | _=>none
def Ob.setC (o:Nat) (l:Lf):Ob→Ob
 | .box cs t=>.box (cs.set o l) t
 | .row cs t n sz=>.row (cs.set o l) t n sz
 | x=>x
def setAt (ob:List Ob) (i o:Nat) (l:Lf):List Ob:=match ob[i]? with
 | some x=>ob.set i (x.setC o l)
 | none=>ob
def Ob.isTh:Ob→Bool
 | .th _=>true
 | .al _ _=>true
 | _=>false
def Ob.of (q:Nat→Bool):Ob→Bool
 | .box cs _=>cs.all (Lf.of q)
 | .th _=>true
 | .al _ _=>true
 | .pl _=>true
 | .row cs _ _ _=>cs.all (Lf.of q)
 | .ow _ _=>true
 | .dead=>true
inductive Tm where
 | v (x:Value)
 | n (x:Nat)
 | o (x:Obj)
 | ob (x:Ob)
 | p (x:Op)
abbrev Eqs:=List (Tm × Tm)
def Eqs.ok (l:Eqs):Prop:=∀ p∈l,p.1=p.2
def Eqs.no:Eqs:=[(.n 0,.n 1)]
inductive Tr where
 | ld (i o:Nat) (l:Lf)
 | st (i o:Nat) (l:Lf)
 | nw (n:Nat) (cs:List Lf) (t:TypeId)
 | sh (i:Nat) (t:TypeId) (m:Nat)
 | fz (i o:Nat)
 | go
structure R1 (α:Type) where
 a:α
 q:Nat→Bool
 ob:List Ob
 tr:List Tr
def ownQ (q:Nat→Bool) (b:Nat):Option Nat:=lit b fun b=>bif q b then some b else none
def addQ (q:Nat→Bool) (n:Nat):Nat→Bool:=fun k=>q k||Nat.beq k n
def run1 {α:Type} (P:Program) (m0:Nat) (st:Bool):Sem α→(Nat→Bool)→List Ob→List Tr→Option (R1 α)
 | .pure a,q,ob,tr=>some ⟨a,q,ob,tr⟩
 | .load _ ⟨b,o,none⟩ k,q,ob,tr =>
  match ownQ q b with
  | some i=>match layAt ob i with
   | some (cs,_)=>lit o fun o=>match cs[o]? with
    | some l=>run1 P m0 st (k (l.den idE)) q ob (.ld i o l::tr)
    | none=>none
   | _=>none
  | none=>none
 | .store _ ⟨b,o,none⟩ v k,q,ob,tr =>
  match ownQ q b with
  | some i=>match layAt ob i with
   | some (cs,t)=>lit o fun o =>
    bif st&&Nat.ble m0 i&&(tag1 v).of q&&(tag1 v).scalar&&Nat.blt o cs.length&&!Nat.beq t 278
    then run1 P m0 st k q (setAt ob i o (tag1 v)) (.st i o (tag1 v)::tr) else none
   | _=>none
  | none=>none
 | .new (.cells cs t _) k,q,ob,tr =>
  bif (cs.toList.map tag1).all (Lf.of q)
  then lit ob.length fun n=>run1 P m0 st (k n) (addQ q n) (ob++[.box (cs.toList.map tag1) t]) (.nw n (cs.toList.map tag1) t::tr) else none
 | .shape b k,q,ob,tr =>
  match ownQ q b with
  | some i=>match ob[i]? with
   | some (.box cs t)=>run1 P m0 st (k (some (t,cs.length))) q ob (.sh i t cs.length::tr)
   | _=>none
  | none=>none
 | .frozen ⟨b,o,none⟩ k,q,ob,tr =>
  match ownQ q b with
  | some i=>match layAt ob i with
   | some _=>run1 P m0 st (k false) q ob (.fz i o::tr)
   | _=>none
  | none=>none
 | .program k,q,ob,tr=>run1 P m0 st (k P) q ob (.go::tr)
 | .mark _ k,q,ob,tr=>run1 P m0 st k q ob (.go::tr)
 | _,_,_,_=>none
def chk {α:Type} (P:Program) (β:Env):Sem α→List Tr→(α→Eqs)→Eqs
 | .pure a,[],f=>f a
 | .load _ a k,.ld i o l::tr,f=>(.v (.pointer (some a)),.v (.pointer (some ⟨(β i).b,o,none⟩)))::chk P β (k (l.den β)) tr f
 | .store _ a v k,.st i o l::tr,f=>(.v (.pointer (some a)),.v (.pointer (some ⟨(β i).b,o,none⟩)))::(.v v,.v (l.den β))::chk P β k tr f
 | .new x k,.nw n cs t::tr,f=>(.o x,.o (.cells (cs.map (Lf.den β)).toArray t (0,0)))::chk P β (k (β n).b) tr f
 | .shape b k,.sh i t m::tr,f=>(.n b,.n (β i).b)::chk P β (k (some (t,m))) tr f
 | .frozen a k,.fz i o::tr,f=>(.v (.pointer (some a)),.v (.pointer (some ⟨(β i).b,o,none⟩)))::chk P β (k false) tr f
 | .program k,.go::tr,f=>chk P β (k P) tr f
 | .mark _ k,.go::tr,f=>chk P β k tr f
 | _,_,_=>Eqs.no
def Enters (P:Program) (f:FuncId):Prop:=∀ args w,(callFunc f args).run P w=.ok (.enter f args) w
def extE (β:Env) (n:Nat) (xs:List Pl):Env:=fun k=>bif Nat.ble n k then (match xs[k-n]? with | some x=>x | none=>β k) else β k
def holdsAll (β:Env) (w:World) (l:List (Nat × Ob)):Prop:=∀ p∈l,p.2.holds β w (β p.1)
def Thing.ob (x:Thing):Ob:=.th x
def newHold (w:World):List Thing→List Pl→Prop
 | [],[]=>True
 | t::ts,x::xs=>t.D w x∧newHold w ts xs
 | _,_=>False
def fresh (β:Env) (w:World) (l:List (Nat × Ob)) (xs:List Pl):Prop:=∀ x∈xs,∀ c,x.F c→w.heap.size≤c∨∃ p∈l,p.2.isTh=true∧(β p.1).F c
structure AppT (P:Program) where
 t:TypeId
 e:TypeId
 i:TypeInfo
 z:Value
 sz:Nat
 bytes:Nat
 ht:P.underlying t=some (.slice e)
 hi:P.info? e=some i
 hz:i.zero=some z
 hsize:i.size=sz
 hby:i.bytes=bytes
 hzs:z.cells.size=sz
 hsz:0<sz
 he:e≠278
structure Mu where
 i:Nat
 a:Ob
 b:Ob
structure TouchL (w w':World) (L:List Nat):Prop where
 os:w'.os=w.os
 tape:w'.tape=w.tape
 output:w'.output=w.output
 size:w.heap.size≤w'.heap.size
 block:∀ k,k<w.heap.size→k ∉ L→w'.heap[k]?=w.heap[k]?
def oldHolds (β:Env) (w:World):Option (Nat × Ob)→Prop
 | none=>True
 | some p=>p.2.holds β w (β p.1)
def Grow (β:Env) (w w':World) (old:Option (Nat × Ob)) (g:Pl):Prop :=
 (w.heap.size≤g.b∧Below w.heap.size w w')∨∃ p,old=some p∧g.b=(β p.1).b∧∃ N,Slot w g.b 0 N∧Touch w w' g.b 0 N
def owF (β:Env) (needs:List (Nat × Ob)) (old:Option (Nat × Ob)) (g:Pl):Prop:=∀ c,g.F c→c=g.b∨(∃ p,old=some p∧(β p.1).F c)∨∃ p∈needs,p.2.isTh=true∧(β p.1).F c
inductive Ev (P:Program) where
 | call (f:FuncId) (en:Enters P f) (args:Env→Array Value) (needs:List (Nat × Ob)) (n:Nat) (res:SV) (news:List Thing)
   (ok:∀ β w,holdsAll β w needs→Calls P f (args β) w fun e w'=>∃ xs:List Pl,fresh β w needs xs∧e=.returned (res.den (extE β n xs))∧newHold w' news xs∧Below w.heap.size w w')
 | ret (f:FuncId) (en:Enters P f) (args:Array Value) (r:Value) (ok:∀ w,Calls P f args w fun e w'=>e=.returned r∧Below w.heap.size w w')
 | eqv (d:Nat) (x r:Value) (h:x=r)
 | mk (d N:Nat)
 | fill (f:FuncId) (en:Enters P f) (args:Env→Array Value) (needs:List (Nat × Ob)) (i N n:Nat) (D:Thing)
   (ok:∀ β w,holdsAll β w needs→(β i).one→Slot w (β i).b 0 N→Calls P f (args β) w fun e w'=>e=.returned (.pointer (some ⟨(β i).b,0,none⟩))∧D.D w' (β i)∧Touch w w' (β i).b 0 N)
 | refill (f:FuncId) (en:Enters P f) (args:Env→Array Value) (needs:List (Nat × Ob)) (i j N n:Nat) (D:Thing)
   (ok:∀ β w,holdsAll β w needs→β j=β i→(β i).one→Slot w (β i).b 0 N→Calls P f (args β) w fun e w'=>e=.returned (.pointer (some ⟨(β i).b,0,none⟩))∧D.D w' (β i)∧Touch w w' (β i).b 0 N)
 | gen (d:Nat) (op:Op) (xs:List Value) (r:Value) (ok:∀ (ρ:Operand→Value) (o:Oper) w,o.op=op→op.operands.toList.map ρ=xs→(execOp ρ o).run P w=.ok (.value r) w)
 | rd (d:Nat) (op:Op) (xs:Env→List Value) (needs:List (Nat × Ob)) (n:Nat) (res:SV) (news:List Thing)
   (ok:∀ β w,holdsAll β w needs→∀ (ρ:Operand→Value) (o:Oper),o.op=op→op.operands.toList.map ρ=xs β→∃ ys w',fresh β w needs ys∧(execOp ρ o).run P w=.ok (.value (res.den (extE β n ys))) w'∧newHold w' news ys∧Below w.heap.size w w')
 | app (A:AppT P)
 | cut
 | mut (f:FuncId) (en:Enters P f) (args:Env→Array Value) (needs:List (Nat × Ob)) (ms:List Mu) (n:Nat) (res:SV) (news:List Thing)
   (ok:∀ β w,holdsAll β w needs→(∀ m∈ms,m.a.holds β w (β m.i))→Calls P f (args β) w fun e w'=>∃ xs:List Pl,fresh β w needs xs∧e=.returned (res.den (extE β n xs))∧newHold w' news xs∧(∀ m∈ms,m.b.holds (extE β n xs) w' (β m.i))∧TouchL w w' (ms.map fun m=>(β m.i).b))
 | own (f:FuncId) (en:Enters P f) (args:Env→Array Value) (needs:List (Nat × Ob)) (n:Nat) (row:Ob) (res:SV) (news:List Thing)
   (ok:∀ β w,holdsAll β w needs→Calls P f (args β) w fun e w'=>∃ (g:Pl) (xs:List Pl),(w.heap.size≤g.b∧fresh β w needs xs∧∀ x∈xs,¬ x.F g.b)∧e=.returned (res.den (extE β n (g::xs)))∧row.holds (extE β n (g::xs)) w' g∧newHold w' news xs∧Below w.heap.size w w')
 | upd (d:Option Nat) (op:Op) (xs:Env→List Value) (needs:List (Nat × Ob)) (old:Option (Nat × Ob)) (n:Nat) (row:Ob) (res:SV)
   (ok:∀ β w,holdsAll β w needs→oldHolds β w old→∀ (ρ:Operand→Value) (o:Oper),o.op=op→op.operands.toList.map ρ=xs β→∃ (g:Pl) (w':World),(execOp ρ o).run P w=.ok (match d with | some _=>.value (res.den (extE β n [g])) | none=>.skip) w'∧row.holds (extE β n [g]) w' g∧Grow β w w' old g∧owF β needs old g)
 | ownC (f:FuncId) (en:Enters P f) (args:Env→Array Value) (needs:List (Nat × Ob)) (n:Nat) (row:Ob) (res:SV)
   (ok:∀ β w,holdsAll β w needs→Calls P f (args β) w fun e w'=>∃ g:Pl,e=.returned (res.den (extE β n [g]))∧row.holds (extE β n [g]) w' g∧(w.heap.size≤g.b∧Below w.heap.size w w')∧owF β needs none g)
 | chg (op:Op) (xs:Env→List Value) (needs:List (Nat × Ob)) (i:Nat) (a b:Ob)
   (ok:∀ β w,holdsAll β w needs→a.holds β w (β i)→∀ (ρ:Operand→Value) (o:Oper),o.op=op→op.operands.toList.map ρ=xs β→∃ w':World,(execOp ρ o).run P w=.ok .skip w'∧b.holds β w' (β i)∧NW w (β i).b∧∃ o n,Touch w w' (β i).b o n)
 | frz (f:List Ob→Nat)
 | dynU (c:Oper→List SV→List Ob→Bool) (k:Oper→List SV→List Ob→Ev P)
 | dyn (c:Oper→List SV→List Ob→Bool) (k:Oper→List SV→List Ob→Ev P)
def noSelectB:Op→Bool
 | .select _ _=>false
 | _=>true
def undefS:SV:=.one (.c (.b (.v undef)))
def look:List (Nat × SV)→Nat→SV
 | [],_=>undefS
 | (k,x)::r,t=>bif Nat.beq k t then x else look r t
def evS (β:Env) (sl:List (Nat × SV)):Operand→Value
 | .tmp t=>(look sl t).den β
 | .const v=>v
 | .global g=>.pointer (some ⟨g,0,none⟩)
 | .func f=>.func (.func f) #[] #[]
inductive OR (P:Program) where
 | ok (x:SV) (q:Nat→Bool) (ob:List Ob) (ev:List (Ev P)) (c:Env→Eqs)
 | bad
def rangeQ (q:Nat→Bool) (n m:Nat):Nat→Bool:=fun k=>q k||(Nat.ble n k&&Nat.blt k m)
def Ob.plain (y x:Ob):Ob:=match y with
 | .al _ t=>(match x with
  | .th u=>bif Nat.beq u.tg t.tg then .th t else .th t.weak
  | _=>.th t)
 | .th t=>(match x with
  | .th u=>bif Nat.beq u.tg t.tg then .th t else .th t.weak
  | _=>.th t)
 | z=>z
def needEqs (q:Nat→Bool) (ob:List Ob):List (Nat × Ob)→Eqs
 | []=>[]
 | (k,x)::r=>match q k,ob[k]? with
  | true,some y=>(.ob (y.plain x),.ob x)::needEqs q ob r
  | _,_=>Eqs.no
theorem Ob.plain_holds {β:Env} {w:World} {g:Pl} {y x:Ob} (h:y.holds β w g):(y.plain x).holds β w g:=by
 have key:∀ t u:Thing,t.D w g→(bif Nat.beq u.tg t.tg then Ob.th t else .th t.weak).holds β w g:=fun t u ht=>by
  cases Nat.beq u.tg t.tg
  · exact t.imp w g ht
  · exact ht
 cases y<;>cases x<;>first | exact h | exact key _ _ h
def Ob.plainO (y x:Ob):Ob:=match y with
 | .ow t _=>(match x with
  | .th u=>bif Nat.beq u.tg t.tg then .th t else .th t.weak
  | _=>y)
 | z=>z.plain x
theorem Ob.plainO_holds {β:Env} {w:World} {g:Pl} {y x:Ob} (h:y.holds β w g):(y.plainO x).holds β w g:=by
 have key:∀ t u:Thing,t.D w g→(bif Nat.beq u.tg t.tg then Ob.th t else .th t.weak).holds β w g:=fun t u ht=>by
  cases Nat.beq u.tg t.tg
  · exact t.imp w g ht
  · exact ht
 cases y with
 | ow t e=>cases x<;>first | exact h | exact key _ _ h.2
 | _=>exact Ob.plain_holds (x:=x) h
def needEqsO (q:Nat→Bool) (ob:List Ob):List (Nat × Ob)→Eqs
 | []=>[]
 | (k,x)::r=>match q k,ob[k]? with
  | true,some y=>(.ob (y.plainO x),.ob x)::needEqsO q ob r
  | _,_=>Eqs.no
def needEqsN (n:Nat) (q:Nat→Bool) (ob:List Ob) (l:List (Nat × Ob)):Eqs:=bif Nat.beq n 0 then needEqsO q ob l else needEqs q ob l
theorem Ob.plain_th {y x:Ob} (h:(y.plain x).isTh=true):y.isTh=true:=by
 cases y<;>cases x<;>first | rfl | exact h
def fixC (ob:List Ob):SC→SC
 | .c (.b (.s k o n c))=>match ob[k]? with
  | some (.row _ _ _ _)=>bif Nat.beq c 0 then .c (.b (.r k n)) else .c (.b (.s k o n c))
  | _=>.c (.b (.s k o n c))
 | x=>x
def fixV (ob:List Ob):SV→SV
 | .one x=>.one (fixC ob x)
 | .tup xs=>.tup (xs.map (fixC ob))
def genOp (P:Program) (m0:Nat) (st:Bool) (q:Nat→Bool) (sl:List (Nat × SV)) (o:Oper) (ob:List Ob) (ev:List (Ev P)):OR P :=
 match run1 P m0 st (execOp (evS idE sl) o) q ob [] with
 | some ⟨.value v,q',ob',tr⟩=>bif (fixV ob' (tag v)).of q' then .ok (fixV ob' (tag v)) q' ob' ev (fun β=>chk P β (execOp (evS β sl) o) tr.reverse fun | .value u=>[(.v u,.v ((fixV ob' (tag v)).den β))] | _=>Eqs.no) else .bad
 | some ⟨.skip,q',ob',tr⟩=>.ok undefS q' ob' ev (fun β=>chk P β (execOp (evS β sl) o) tr.reverse fun | .skip=>[] | _=>Eqs.no)
 | _=>.bad
def opSV (sl:List (Nat × SV)):Operand→SV
 | .tmp t=>look sl t
 | .const v=>tag v
 | _=>undefS
def rowOf (q:Nat→Bool) (ob:List Ob) (m0 e sz:Nat):SV→Option (Option Nat × List Lf × Nat)
 | .one (.c (.b (.v (.slice none n c))))=>bif Nat.beq n 0&&Nat.beq c 0 then some (none,[],0) else none
 | .one (.c (.b (.r k n)))=>bif q k&&Nat.ble m0 k then match ob[k]? with
   | some (.row cs t n' sz')=>bif Nat.beq t e&&Nat.beq n' n&&Nat.beq sz' sz then some (some k,cs,n) else none
   | _=>none
  else none
 | _=>none
def newsOf (q:Nat→Bool) (ob:List Ob) (sz:Nat):SV→Option (List Lf × Nat)
 | .one (.c (.b (.s k o n _)))=>bif q k then match layAt ob k with
   | some (cs,_)=>bif Nat.beq ((cs.drop o).take (n*sz)).length (n*sz) then some ((cs.drop o).take (n*sz),n) else none
   | none=>none
  else none
 | .one (.c (.b (.r k n)))=>bif q k then match layAt ob k with
   | some (cs,_)=>bif Nat.beq ((cs.drop 0).take (n*sz)).length (n*sz) then some ((cs.drop 0).take (n*sz),n) else none
   | none=>none
  else none
 | _=>none
def killO (ob:List Ob):Option Nat→List Ob
 | none=>ob
 | some k=>ob.set k .dead
def isApp:Op→Bool
 | .call ⟨.builtin .append,_,_⟩=>true
 | _=>false
def appS (P:Program) (m0:Nat) (st:Bool) (q:Nat→Bool) (sl:List (Nat × SV)) (op:Op) (ob:List Ob) (ev:List (Ev P)) (A:AppT P):OR P:=match op with
 | .call ⟨.builtin .append,xs,ats⟩=>match xs.toList with
  | [s,x]=>match rowOf q ob m0 A.e A.sz (opSV sl s),newsOf q ob A.sz (opSV sl x) with
   | some (k,cs,n),some (news,m)=>bif st&&Nat.ble 1 m&&Nat.ble ((n+m)*(A.bytes+1)) 140737488355328&&news.all Lf.scalar then
     lit ob.length fun N=>lit (n+m) fun r=>.ok (.one (.c (.b (.r N r)))) (addQ q N) (killO ob k++[.row (cs++news) A.e r A.sz]) ev fun β =>
      [(.p op,.p (.call ⟨.builtin .append,#[s,x],#[A.t,A.t]⟩)),(.v (evS β sl s),.v ((opSV sl s).den β)),(.v (evS β sl x),.v ((opSV sl x).den β))]
    else .bad
   | _,_=>.bad
  | _=>.bad
 | _=>.bad
def isMkS:Op→Bool
 | .makeSlice _ _ _=>true
 | .buildSlice _ len _=>Nat.beq len 0
 | _=>false
def mkRowS (P:Program) (st:Bool) (q:Nat→Bool) (sl:List (Nat × SV)) (op:Op) (ob:List Ob) (ev:List (Ev P)) (A:AppT P):OR P:=match op with
 | .makeSlice _ l c=>match opSV sl l,opSV sl c with
  | .one (.c (.b (.v (.int kl _)))),.one (.c (.b (.v (.int kc C))))=>bif st&&decide (0≤C)&&Nat.ble (C.toNat*(A.bytes+1)) 140737488355328 then
    lit ob.length fun N=>.ok (.one (.c (.b (.r N 0)))) (addQ q N) (ob++[.row [] A.e 0 A.sz]) ev fun β =>
     [(.p op,.p (.makeSlice A.t l c)),(.v (evS β sl l),.v (.int kl 0)),(.v (evS β sl c),.v (.int kc C))]
   else .bad
  | _,_=>.bad
 | .buildSlice _ len parts=>bif st&&Nat.beq len 0&&Nat.beq parts.size 0 then
   lit ob.length fun N=>.ok (.one (.c (.b (.r N 0)))) (addQ q N) (ob++[.row [] A.e 0 A.sz]) ev fun _=>[(.p op,.p (.buildSlice A.t 0 #[]))]
  else .bad
 | _=>.bad
def aloneB (i:Nat):List Ob→Nat→Bool
 | [],_=>true
 | .al r _::l,k=>!Nat.beq r i&&aloneB i l (k+1)
 | _::l,k=>aloneB i l (k+1)
def opS0 (P:Program) (m0:Nat) (st:Bool) (q:Nat→Bool) (sl:List (Nat × SV)) (o:Oper) (ob:List Ob) (ev:List (Ev P)):OR P :=
 match o.op with
 | .call ⟨.value fo,xs,_⟩ =>
  match ev with
  | .call f _ args needs n res news _::ev' =>
   bif (Nat.beq news.length 0||Nat.beq n ob.length)&&res.of (rangeQ q ob.length (ob.length+news.length)) then
    .ok res (rangeQ q ob.length (ob.length+news.length)) (ob++news.map Thing.ob) ev' fun β =>
     match evS β sl fo with
     | .func (.func g) x y=>(.n g,.n f)::(.v (.agg (x++xs.map (evS β sl)++y)),.v (.agg (args β)))::needEqsN news.length q ob needs
     | _=>Eqs.no
   else .bad
  | .ret f _ args r _::ev' =>
   bif (tag r).of (fun _=>false) then
    .ok (tag r) q ob ev' fun β =>
     match evS β sl fo with
     | .func (.func g) x y=>(.n g,.n f)::(.v (.agg (x++xs.map (evS β sl)++y)),.v (.agg args))::(.v ((tag r).den β),.v r)::[]
     | _=>Eqs.no
   else .bad
  | .fill f _ args needs i N n D _::ev' =>
   match ob[i]? with
   | some (.pl N') =>
    bif Nat.beq N' N&&Nat.beq n ob.length&&q i&&Nat.ble m0 i&&aloneB i ob 0 then
     .ok (.one (.c (.b (.z n 0)))) (addQ q n) (ob++[.al i D]) ev' fun β =>
      match evS β sl fo with
      | .func (.func g) x y=>(.n g,.n f)::(.v (.agg (x++xs.map (evS β sl)++y)),.v (.agg (args β)))::needEqs q ob needs
      | _=>Eqs.no
    else .bad
   | _=>.bad
  | _=>.bad
 | op=>match ev with
  | .gen d op' xs r _::ev'=>match o.dst with
   | some t=>bif Nat.beq t d then
     bif (tag r).of (fun _=>false) then .ok (tag r) q ob ev' fun β=>(.p op,.p op')::(.v (.agg (op.operands.map (evS β sl))),.v (.agg xs.toArray))::[(.v r,.v ((tag r).den β))] else .bad
    else genOp P m0 st q sl o ob ev
   | none=>genOp P m0 st q sl o ob ev
  | .rd d op' xs needs n res news _::ev'=>match o.dst with
   | some t=>bif Nat.beq t d then
     bif (Nat.beq news.length 0||Nat.beq n ob.length)&&res.of (rangeQ q ob.length (ob.length+news.length)) then
      .ok res (rangeQ q ob.length (ob.length+news.length)) (ob++news.map Thing.ob) ev' fun β=>(.p op,.p op')::(.v (.agg (op.operands.map (evS β sl))),.v (.agg (xs β).toArray))::needEqsN news.length q ob needs
     else .bad
    else genOp P m0 st q sl o ob ev
   | none=>genOp P m0 st q sl o ob ev
  | .eqv d x r _::ev'=>match o.dst with
   | some t=>bif Nat.beq t d then
     match genOp P m0 st q sl o ob [] with
     | .ok v q' ob' _ c=>bif (tag r).of (fun _=>false) then .ok (tag r) q' ob' ev' fun β=>(.v (v.den β),.v x)::(.v ((tag r).den β),.v r)::c β else .bad
     | .bad=>.bad
    else genOp P m0 st q sl o ob ev
   | none=>genOp P m0 st q sl o ob ev
  | .mk d N::ev'=>match o.dst with
   | some t=>bif Nat.beq t d then
     match genOp P m0 false q sl o ob [] with
     | .ok v q' ob' _ c=>match ob'[ob.length]? with
      | some (.box cs tt)=>bif Nat.beq ob'.length (ob.length+1)&&Nat.ble N cs.length&&!Nat.beq tt 278 then .ok v q' (ob++[.pl N]) ev' c else .bad
      | _=>.bad
     | .bad=>.bad
    else genOp P m0 st q sl o ob ev
   | none=>genOp P m0 st q sl o ob ev
  | .app A::ev'=>bif isApp op then appS P m0 st q sl op ob ev' A else bif isMkS op then mkRowS P st q sl op ob ev' A else genOp P m0 st q sl o ob ev
  | _=>genOp P m0 st q sl o ob ev
def capS:SV→List SV × List SV
 | .one (.c (.f _ x y))=>(x.map fun l=>.one (.c (.b l)),y.map fun l=>.one (.c (.b l)))
 | _=>([],[])
def dynR {P:Program} (sl:List (Nat × SV)) (o:Oper) (ob:List Ob) (ev:List (Ev P)):List (Ev P) :=
 match ev with
 | .dyn c k::r =>
  let xs:=match o.op with
   | .call ⟨.value fo,xs,_⟩=>(capS (opSV sl fo)).1++xs.toList.map (opSV sl)++(capS (opSV sl fo)).2
   | .call ⟨_,xs,_⟩=>xs.toList.map (opSV sl)
   | op=>op.operands.toList.map (opSV sl)
  bif c o xs ob then k o xs ob::r else ev
 | _=>ev
def opS (P:Program) (m0:Nat) (st:Bool) (q:Nat→Bool) (sl:List (Nat × SV)) (o:Oper) (ob:List Ob) (ev:List (Ev P)):OR P:=opS0 P m0 st q sl o ob (dynR sl o ob ev)
theorem extE_nil (β:Env) (n:Nat):extE β n []=β:=by
 funext k
 simp [extE]
end
section
open Go Go.RowKit
theorem all_congr {α β:Type} {f g:α→β} {p:α→Bool}:∀ {l:List α},l.all p=true→(∀ x,p x=true→f x=g x)→l.map f=l.map g
 | [],_,_=>rfl
 | x::r,h,k=>by
  simp only [List.all_cons,Bool.and_eq_true] at h
  simp only [List.map_cons,k x h.1,all_congr h.2 k]
theorem all_mono {α:Type} {p q:α→Bool} {l:List α} (h:l.all p=true) (k:∀ x,p x=true→q x=true):l.all q=true :=
 List.all_eq_true.2 fun x hx=>k x (List.all_eq_true.1 h x hx)
theorem Lf0.den_congr {q:Nat→Bool} {β β':Env} (hq:∀ k,q k=true→β k=β' k):∀ x:Lf0,x.of q=true→x.den β=x.den β'
 | .v _,_=>rfl
 | .p k o,h=>by simp only [Lf0.den,hq k h]
 | .s k o n c,h=>by simp only [Lf0.den,hq k h]
 | .z k i,h=>by simp only [Lf0.den,hq k h]
 | .y k i n,h=>by simp only [Lf0.den,hq k h]
 | .r k n,h=>by simp only [Lf0.den,hq k h]
 | .gh k i,h=>by simp only [Lf0.den,hq k h]
theorem Lf.den_congr {q:Nat→Bool} {β β':Env} (hq:∀ k,q k=true→β k=β' k):∀ x:Lf,x.of q=true→x.den β=x.den β'
 | .b l,h=>Lf0.den_congr hq l h
 | .f fn x y,h=>by
  simp only [Lf.of,Bool.and_eq_true] at h
  simp only [Lf.den,all_congr h.1 (Lf0.den_congr hq),all_congr h.2 (Lf0.den_congr hq)]
theorem SC.den_congr {q:Nat→Bool} {β β':Env} (hq:∀ k,q k=true→β k=β' k):∀ x:SC,x.of q=true→x.den β=x.den β'
 | .c l,h=>Lf.den_congr hq l h
 | .a ls,h=>by simp only [SC.den,all_congr h (Lf.den_congr hq)]
theorem SV.den_congr {q:Nat→Bool} {β β':Env} (hq:∀ k,q k=true→β k=β' k):∀ x:SV,x.of q=true→x.den β=x.den β'
 | .one x,h=>SC.den_congr hq x h
 | .tup xs,h=>by simp only [SV.den,all_congr h (SC.den_congr hq)]
theorem Lf0.of_mono {q q':Nat→Bool} (hq:∀ k,q k=true→q' k=true):∀ x:Lf0,x.of q=true→x.of q'=true
 | .v _,_=>rfl
 | .p k o,h=>hq k h
 | .s k o n c,h=>hq k h
 | .z k i,h=>hq k h
 | .y k i n,h=>hq k h
 | .r k n,h=>hq k h
 | .gh k i,h=>hq k h
theorem Lf.of_mono {q q':Nat→Bool} (hq:∀ k,q k=true→q' k=true):∀ x:Lf,x.of q=true→x.of q'=true
 | .b l,h=>Lf0.of_mono hq l h
 | .f fn x y,h=>by
  simp only [Lf.of,Bool.and_eq_true] at h ⊢
  exact ⟨all_mono h.1 (Lf0.of_mono hq),all_mono h.2 (Lf0.of_mono hq)⟩
theorem SC.of_mono {q q':Nat→Bool} (hq:∀ k,q k=true→q' k=true):∀ x:SC,x.of q=true→x.of q'=true
 | .c l,h=>Lf.of_mono hq l h
 | .a ls,h=>all_mono h (Lf.of_mono hq)
theorem SV.of_mono {q q':Nat→Bool} (hq:∀ k,q k=true→q' k=true):∀ x:SV,x.of q=true→x.of q'=true
 | .one x,h=>SC.of_mono hq x h
 | .tup xs,h=>all_mono h (SC.of_mono hq)
theorem Ob.of_mono {q q':Nat→Bool} (hq:∀ k,q k=true→q' k=true):∀ x:Ob,x.of q=true→x.of q'=true
 | .box _ _,h=>all_mono h (Lf.of_mono hq)
 | .th _,_=>rfl
 | .al _ _,_=>rfl
 | .pl _,_=>rfl
 | .row _ _ _ _,h=>all_mono h (Lf.of_mono hq)
 | .ow _ _,_=>rfl
 | .dead,_=>rfl
theorem Ob.holds_congr {q:Nat→Bool} {β β':Env} {w:World} {g:Pl} (hq:∀ k,q k=true→β k=β' k):∀ x:Ob,x.of q=true→x.holds β w g→x.holds β' w g
 | .box cs t,h,k=>by
  simp only [Ob.holds] at k ⊢
  rw [← all_congr h (Lf.den_congr hq)]
  exact k
 | .th _,_,k=>k
 | .al _ _,_,k=>k
 | .pl _,_,k=>k
 | .row cs t n sz,h,k=>by
  simp only [Ob.holds] at k ⊢
  rw [← all_congr h (Lf.den_congr hq)]
  exact k
 | .ow _ _,_,k=>k
 | .dead,_,k=>k
def Free (ex:Nat→Bool) (obj:Nat→Option Ob) (k:Nat):Prop:=(∃ x,obj k=some x∧∃ p,x.layOf=some p)∨((∃ n,obj k=some (.pl n))∧∀ j D,ex j=true→obj j≠some (.al k D))
def Ob.mine:Ob→Bool
 | .box _ _=>true
 | .pl _=>true
 | .row _ _ _ _=>true
 | .ow _ _=>true
 | _=>false
structure Bd where
 n:Nat
 S:Nat→Prop
 k:Nat
 R:Nat→Prop
 df:List Deferred
def Bd.has (B:Bd) (c:Nat):Prop:=B.n≤c∨B.S c
def Bd.hang (B:Bd) (c:Nat):Prop:=B.has c∨B.R c
structure Keep (B:Bd) (w w':World):Prop where
 os:w'.os=w.os
 tape:w'.tape=w.tape
 output:w'.output=w.output
 size:w.heap.size≤w'.heap.size
 block:∀ k,k<B.n→¬ B.S k→w'.heap[k]?=w.heap[k]?
theorem Keep.refl (B:Bd) (w:World):Keep B w w:=⟨rfl,rfl,rfl,Nat.le_refl _,fun _ _ _=>rfl⟩
theorem Keep.trans {B:Bd} {a b c:World} (h:Keep B a b) (k:Keep B b c):Keep B a c :=
 ⟨k.os.trans h.os,k.tape.trans h.tape,k.output.trans h.output,Nat.le_trans h.size k.size,fun i hi hs=>(k.block i hi hs).trans (h.block i hi hs)⟩
theorem Keep.of_below {B:Bd} {a b:World} (h:Below B.n a b):Keep B a b:=⟨h.os,h.tape,h.output,h.size,fun k hk _=>h.block k hk⟩
theorem Keep.on {B:Bd} {a b c:World} (h:Keep B a b) (hle:B.n≤b.heap.size) (k:Below b.heap.size b c):Keep B a c:=h.trans (.of_below (k.mono hle))
theorem Keep.touch {B:Bd} {a b c:World} {g o n:Nat} (h:Keep B a b) (ht:Touch b c g o n) (hg:B.has g) (hle:B.n≤b.heap.size):Keep B a c :=
 h.trans ⟨ht.os,ht.tape,ht.output,ht.size,fun k hk hs=>ht.block k (Nat.lt_of_lt_of_le hk hle) fun e=>hg.elim (fun a=>absurd (e▸hk) (Nat.not_lt.2 a)) (fun a=>hs (e▸a))⟩
theorem Keep.setCell {B:Bd} {a b:World} (h:Keep B a b) {x:Addr} (hg:B.has x.block) (u:Value):Keep B a (b.setCell x u) :=
 h.trans ⟨rfl,rfl,rfl,by simp [World.setCell],fun k hk hs=>Below.heap_setCell b x u k fun e=>hg.elim (fun a=>absurd (e▸hk) (Nat.not_lt.2 a)) (fun a=>hs (e▸a))⟩
def bd0 (n k:Nat):Bd:=⟨n,fun _=>False,k,fun _=>False,[]⟩
theorem Keep.below {n k:Nat} {a b:World} (h:Keep (bd0 n k) a b):Below n a b:=⟨h.os,h.tape,h.output,h.size,fun k hk=>h.block k hk id⟩
structure Good (B0:Bd) (m0:Nat) (w0:World) (ex:Nat→Bool) (obj:Nat→Option Ob) (β:Env) (w:World):Prop where
 bel:Keep B0 w0 w
 le:B0.n≤w.heap.size
 hold:∀ k o,ex k=true→obj k=some o→o.holds β w (β k)∧o.of ex=true
 lt:∀ k,ex k=true→∀ c,(β k).F c→c<w.heap.size
 ne:∀ k j,ex k=true→ex j=true→j≠k→m0≤k→Free ex obj k→obj j≠some .dead→¬ (β j).F (β k).b
 lowm:∀ k x,ex k=true→m0≤k→obj k=some x→x.mine=true→B0.has (β k).b
 fr:∀ k,ex k=true→m0≤k→∀ c,(β k).F c→B0.hang c∨∃ i,i<m0∧(β i).F c
 ar:∀ i,i<m0→ex i=true
 al:∀ k r D,ex k=true→obj k=some (.al r D)→ex r=true∧∃ n,obj r=some (.pl n)
 alb:∀ k r D,ex k=true→obj k=some (.al r D)→β k=β r
 ord:∀ k i,ex k=true→ex i=true→k<i→m0≤i→obj k≠some .dead→(∃ N,obj i=some (.pl N))→¬ (β k).F (β i).b
theorem lay_mine {x:Ob} {p:List Lf × TypeId} (hl:x.layOf=some p):x.mine=true:=by
 cases x<;>first | (cases hl; done) | rfl
theorem Good.low {B0:Bd} {m0:Nat} {w0:World} {ex:Nat→Bool} {obj:Nat→Option Ob} {β:Env} {w:World} (h:Good B0 m0 w0 ex obj β w) (k:Nat) (hk:ex k=true) (hm:m0≤k) (hf:Free ex obj k):B0.has (β k).b:=by
 rcases hf with ⟨x,e,p,hl⟩ | ⟨⟨n,e⟩,_⟩
 · exact h.lowm k x hk hm e (lay_mine hl)
 · exact h.lowm k _ hk hm e rfl
theorem heap_lt {w:World} {b:Nat} {o:Obj} (h:w.heap[b]?=some o):b<w.heap.size:=by
 rcases Nat.lt_or_ge b w.heap.size with hlt | hge
 · exact hlt
 · rw [Array.getElem?_eq_none hge] at h; cases h
theorem Ob.holds_on {β:Env} {w w':World} {g:Pl} (k:Below w.heap.size w w'):∀ x:Ob,x.holds β w g→x.holds β w' g
 | .box cs t,h=>by
  simp only [Ob.holds] at h ⊢
  rw [k.block g.b (heap_lt h.2)]
  exact h
 | .th D,h=>D.st.below w w' g h k
 | .al _ D,h=>D.st.below w w' g h k
 | .pl n,h=>⟨h.1,h.2.on k⟩
 | .row cs t n sz,h=>by
  simp only [Ob.holds] at h ⊢
  rw [k.block g.b (heap_lt h.2.choose_spec.1)]
  exact h
 | .ow D t,h=>⟨⟨h.1.1,h.1.2.1,by rw [k.block g.b (heap_lt h.1.2.2.choose_spec)]; exact h.1.2.2⟩,D.st.below w w' g h.2 k⟩
 | .dead,_=>trivial
theorem Good.on {B0:Bd} {m0:Nat} {w0:World} {ex:Nat→Bool} {obj:Nat→Option Ob} {β:Env} {w w':World} (h:Good B0 m0 w0 ex obj β w) (k:Below w.heap.size w w'):Good B0 m0 w0 ex obj β w' :=
 ⟨h.bel.on h.le k,Nat.le_trans h.le k.size,fun i o hi ho=>⟨Ob.holds_on k o (h.hold i o hi ho).1,(h.hold i o hi ho).2⟩,fun i hi c hc=>Nat.lt_of_lt_of_le (h.lt i hi c hc) k.size,h.ne,h.lowm,h.fr,h.ar,h.al,h.alb,h.ord⟩
theorem Good.congr {B0:Bd} {m0:Nat} {w0:World} {ex:Nat→Bool} {obj:Nat→Option Ob} {β β':Env} {w:World} (h:Good B0 m0 w0 ex obj β w) (k:∀ i,ex i=true→β i=β' i):Good B0 m0 w0 ex obj β' w :=
 ⟨h.bel,h.le,fun i o hi ho=>⟨by rw [← k i hi]; exact Ob.holds_congr k o (h.hold i o hi ho).2 (h.hold i o hi ho).1,(h.hold i o hi ho).2⟩,fun i hi=>by rw [← k i hi]; exact h.lt i hi,
  fun i j hi hj hne hm hf hd=>by rw [← k i hi,← k j hj]; exact h.ne i j hi hj hne hm hf hd,fun i x hi hm hx hf=>by rw [← k i hi]; exact h.lowm i x hi hm hx hf,fun i hi hm c hc=>by
   rw [← k i hi] at hc
   refine (h.fr i hi hm c hc).imp id fun ⟨j,h1,h2⟩=>⟨j,h1,by rw [← k j (h.ar j h1)]; exact h2⟩,h.ar,h.al,
  fun a r D ha ho=>by rw [← k a ha,← k r (h.al a r D ha ho).1]; exact h.alb a r D ha ho,fun a i ha hi hlt hm hd hp=>by rw [← k a ha,← k i hi]; exact h.ord a i ha hi hlt hm hd hp⟩
theorem Free.view {ex:Nat→Bool} {obj obj':Nat→Option Ob} (ho:∀ k,ex k=true→obj' k=obj k) {k:Nat} (hk:ex k=true) (h:Free ex obj' k):Free ex obj k :=
 h.imp (fun ⟨x,e,hl⟩=>⟨x,by rw [← ho k hk]; exact e,hl⟩) fun ⟨⟨n,e⟩,f⟩=>⟨⟨n,by rw [← ho k hk]; exact e⟩,fun j D hj hx=>f j D hj (by rw [ho j hj]; exact hx)⟩
theorem Good.view {B0:Bd} {m0:Nat} {w0:World} {ex ex':Nat→Bool} {obj obj':Nat→Option Ob} {β:Env} {w:World} (h:Good B0 m0 w0 ex obj β w) (he:∀ k,ex' k=ex k) (ho:∀ k,ex k=true→obj' k=obj k):Good B0 m0 w0 ex' obj' β w:=by
 obtain rfl:ex'=ex:=funext he
 exact ⟨h.bel,h.le,fun i o hi hx=>h.hold i o hi (by rw [← ho i hi]; exact hx),h.lt,fun k j hk hj hne hm hf hd=>h.ne k j hk hj hne hm (hf.view ho hk) (by rw [← ho j hj]; exact hd),fun k x hk hm hx hf=>h.lowm k x hk hm (by rw [← ho k hk]; exact hx) hf,h.fr,h.ar,fun k r D hk hx=>by
  obtain ⟨h1,n,h2⟩:=h.al k r D hk (by rw [← ho k hk]; exact hx)
  exact ⟨h1,n,by rw [ho r h1]; exact h2⟩,fun k r D hk hx=>h.alb k r D hk (by rw [← ho k hk]; exact hx),
  fun a i ha hi hlt hm hd ⟨N,hp⟩=>h.ord a i ha hi hlt hm (by rw [← ho a ha]; exact hd) ⟨N,by rw [← ho i hi]; exact hp⟩⟩
def updO (obj:Nat→Option Ob) (n:Nat) (x:Ob):Nat→Option Ob:=fun k=>if k=n then some x else obj k
theorem updO_ne {obj:Nat→Option Ob} {n k:Nat} {x:Ob} (h:k≠n):updO obj n x k=obj k:=if_neg h
theorem updO_eq (obj:Nat→Option Ob) (n:Nat) (x:Ob):updO obj n x n=some x:=if_pos rfl
def Ob.own:Ob→Bool
 | .al _ _=>false
 | .dead=>false
 | _=>true
theorem addQ_iff {ex:Nat→Bool} {n k:Nat}:addQ ex n k=true↔ex k=true∨k=n:=by simp [addQ]
theorem al_upd {ex:Nat→Bool} {obj:Nat→Option Ob} {n:Nat} {x:Ob} (h:∀ k r D,ex k=true→obj k=some (.al r D)→ex r=true∧∃ n,obj r=some (.pl n)) (hn:ex n=false) (hx:∀ r D,x=.al r D→ex r=true∧∃ n,obj r=some (.pl n)) :
  ∀ k r D,addQ ex n k=true→updO obj n x k=some (.al r D)→addQ ex n r=true∧∃ m,updO obj n x r=some (.pl m):=by
 have key:∀ r,ex r=true→(∃ m,obj r=some (.pl m))→addQ ex n r=true∧∃ m,updO obj n x r=some (.pl m):=fun r h1 h2=>⟨addQ_iff.2 (.inl h1),by
  obtain ⟨m,h2⟩:=h2
  exact ⟨m,by rw [updO_ne (fun e=>by rw [e,hn] at h1; cases h1)]; exact h2⟩⟩
 intro k r D hk ho
 by_cases e:k=n
 · rw [e,updO_eq] at ho
   obtain ⟨h1,h2⟩:=hx r D (Option.some.inj ho)
   exact key r h1 h2
 · rw [updO_ne e] at ho
   obtain ⟨h1,h2⟩:=h k r D ((addQ_iff.1 hk).elim id (fun a=>absurd a e)) ho
   exact key r h1 h2
theorem Free.push {ex:Nat→Bool} {obj:Nat→Option Ob} {n k:Nat} {x:Ob} (hn:ex n=false) (hk:ex k=true) (h:Free (addQ ex n) (updO obj n x) k):Free ex obj k:=by
 have e:k≠n:=fun e=>by rw [e,hn] at hk; cases hk
 unfold Free at h
 rw [updO_ne e] at h
 refine h.imp id fun ⟨h1,h2⟩=>⟨h1,fun j D hj hx=>h2 j D (addQ_iff.2 (.inl hj)) (by rw [updO_ne (fun e=>by rw [e,hn] at hj; cases hj)]; exact hx)⟩
theorem Good.bF {B0:Bd} {m0 k:Nat} {w0:World} {ex:Nat→Bool} {obj:Nat→Option Ob} {β:Env} {w:World} (h:Good B0 m0 w0 ex obj β w) (hk:ex k=true) (hf:Free ex obj k):(β k).F (β k).b:=by
 rcases hf with ⟨x,e,p,hl⟩ | ⟨⟨m,e⟩,_⟩
 · have hh:=(h.hold k _ hk e).1
   cases x<;>first | (cases hl; done) | exact (hh.1.1 _).2 rfl | exact hh.1.1
 · exact ((h.hold k _ hk e).1.1.1 _).2 rfl
theorem Good.push {B0:Bd} {m0 n:Nat} {w0:World} {ex:Nat→Bool} {obj:Nat→Option Ob} {β:Env} {w w':World} (h:Good B0 m0 w0 ex obj β w) (hb:Below w.heap.size w w') (hn:ex n=false) (h1:(β n).one) (hl:w.heap.size≤(β n).b) (hlt:(β n).b<w'.heap.size) {x:Ob} (hx:x.holds β w' (β n)) (ho:x.of ex=true) (hown:x.own=true) :
  Good B0 m0 w0 (addQ ex n) (updO obj n x) β w':=by
 have hmono:∀ k,ex k=true→addQ ex n k=true:=fun k hk=>addQ_iff.2 (.inl hk)
 have hexn:∀ k,ex k=true→k≠n:=fun k hk e=>by rw [e,hn] at hk; cases hk
 have h':=h.on hb
 refine ⟨h'.bel,h'.le,?_,?_,?_,?_,?_,fun i hi=>hmono i (h.ar i hi),al_upd h.al hn (fun r D e=>by rw [e] at hown; cases hown),?_,?_⟩
 · intro k o hk hko
   by_cases e:k=n
   · rw [e,updO_eq] at hko
     obtain rfl:=Option.some.inj hko
     rw [e]
     exact ⟨hx,Ob.of_mono hmono _ ho⟩
   · rw [updO_ne e] at hko
     have hk1:=(addQ_iff.1 hk).elim id (fun a=>absurd a e)
     exact ⟨(h'.hold k o hk1 hko).1,Ob.of_mono hmono _ (h'.hold k o hk1 hko).2⟩
 · intro k hk
   rcases addQ_iff.1 hk with hk | rfl
   · exact h'.lt k hk
   · intro c hc
     rw [(h1.1 c).1 hc]
     exact hlt
 · intro k j hk hj hne hm hf hd
   rcases addQ_iff.1 hk with hk1 | e1
   · rcases addQ_iff.1 hj with hj1 | e2
     · exact h'.ne k j hk1 hj1 hne hm (hf.push hn hk1) (by rwa [updO_ne (hexn j hj1)] at hd)
     · rw [e2]
       intro hc
       have hc:=(h1.1 _).1 hc
       have hk0:(β k).F (β k).b:=h.bF hk1 (hf.push hn hk1)
       have:=h.lt k hk1 _ hk0
       omega
   · rcases addQ_iff.1 hj with hj1 | e2
     · rw [e1]
       intro hc
       have:=h.lt j hj1 _ hc
       omega
     · exact absurd (by rw [e1,e2]) hne
 · intro k y hk hm hy hf
   rcases addQ_iff.1 hk with hk | rfl
   · exact h'.lowm k y hk hm (by rwa [updO_ne (hexn k hk)] at hy) hf
   · exact .inl (Nat.le_trans h.le hl)
 · intro k hk hm c hc
   rcases addQ_iff.1 hk with hk | rfl
   · exact h'.fr k hk hm c hc
   · rw [(h1.1 c).1 hc]; exact .inl (.inl (.inl (Nat.le_trans h.le hl)))
 · intro k r D hk hko
   by_cases e:k=n
   · rw [e,updO_eq] at hko
     rw [Option.some.inj hko] at hown
     cases hown
   · rw [updO_ne e] at hko
     exact h.alb k r D ((addQ_iff.1 hk).elim id (fun a=>absurd a e)) hko
 · intro k i hk hi hlt' hm hd hp
   rcases addQ_iff.1 hi with hi1 | ei
   · obtain ⟨N,hp⟩:=hp
     rw [updO_ne (hexn i hi1)] at hp
     rcases addQ_iff.1 hk with hk1 | ek
     · exact h.ord k i hk1 hi1 hlt' hm (by rwa [updO_ne (hexn k hk1)] at hd) ⟨N,hp⟩
     · rw [ek]
       intro hc
       have e1:=(h1.1 _).1 hc
       have:=h.lt i hi1 _ (((h.hold i _ hi1 hp).1.1.1 _).2 rfl)
       omega
   · rcases addQ_iff.1 hk with hk1 | ek
     · rw [ei]
       intro hc
       have:=h.lt k hk1 _ hc
       omega
     · omega
theorem heap_set (w:World) (b i:Nat) (u:Value) (k:Nat) (h:k≠b):(w.setCell ⟨b,i,none⟩ u).heap[k]?=w.heap[k]?:=Below.heap_setCell w ⟨b,i,none⟩ u k h
theorem heap_set_at {w:World} {b i:Nat} {u:Value} {cs:Array Value} {t:TypeId} {fr:Nat × Nat} (h:w.heap[b]?=some (.cells cs t fr)):(w.setCell ⟨b,i,none⟩ u).heap[b]?=some (.cells (cs.setIfInBounds i u) t fr):=by
 simp [World.setCell,Array.getElem?_modify,h]
theorem size_set (w:World) (a:Addr) (u:Value):(w.setCell a u).heap.size=w.heap.size:=by simp [World.setCell]
theorem Free.box {ex:Nat→Bool} {obj:Nat→Option Ob} {k:Nat} {cs:List Lf} {t:TypeId} (h:obj k=some (.box cs t)):Free ex obj k:=.inl ⟨_,h,_,rfl⟩
theorem Free.lay {ex:Nat→Bool} {obj:Nat→Option Ob} {k:Nat} {x:Ob} {p:List Lf × TypeId} (h:obj k=some x) (hl:x.layOf=some p):Free ex obj k:=.inl ⟨_,h,_,hl⟩
theorem lay_al {x:Ob} {p:List Lf × TypeId} (hl:x.layOf=some p):(∀ r D,x≠.al r D)∧x≠.dead∧∀ n,x≠.pl n:=by
 cases x<;>first | (cases hl; done) | exact ⟨(fun _ _ e=>by cases e),(fun e=>by cases e),(fun _ e=>by cases e)⟩
theorem setC_lay {x:Ob} {cs:List Lf} {t:TypeId} (o:Nat) (l:Lf) (hl:x.layOf=some (cs,t)):(x.setC o l).layOf=some (cs.set o l,t):=by
 cases x<;>first | (cases hl; done) | (cases hl; rfl)
theorem lay_own {x:Ob} {p:List Lf × TypeId} (hl:x.layOf=some p):x.own=true:=by
 cases x<;>first | (cases hl; done) | rfl
theorem layAt_eq {ob:List Ob} {i:Nat} {p:List Lf × TypeId} (h:layAt ob i=some p):∃ x,ob[i]?=some x∧x.layOf=some p∧∀ o l,setAt ob i o l=ob.set i (x.setC o l):=by
 unfold layAt at h
 split at h
 · rename_i cs t e
   exact ⟨_,e,h,fun o l=>by unfold setAt; rw [e]⟩
 · rename_i cs t _ _ e
   exact ⟨_,e,h,fun o l=>by unfold setAt; rw [e]⟩
 · cases h
theorem layAt_now {ob:List Ob} {i:Nat} {p:List Lf × TypeId} (h:layAt ob i=some p):∀ x,ob[i]?=some x→x.isOw=false:=by
 intro x e
 unfold layAt at h
 rw [e] at h
 cases x<;>first | rfl | (cases h; done)
theorem lay_noow {x:Ob} {cs:List Lf} {t:TypeId} {o:Nat} (hl:x.layOf=some (cs,t)) (h:o<cs.length):x.isOw=false:=by
 cases x<;>first | rfl | (cases hl; simp at h)
theorem lay_of {q:Nat→Bool} {x:Ob} {cs:List Lf} {t:TypeId} (hl:x.layOf=some (cs,t)):x.of q=cs.all (Lf.of q):=by
 cases x<;>first | (cases hl; done) | (cases hl; rfl)
theorem lay_cells {β:Env} {w:World} {g:Pl} {x:Ob} {cs:List Lf} {t:TypeId} (hl:x.layOf=some (cs,t)) (hno:x.isOw=false) (h:x.holds β w g):∃ cur,w.heap[g.b]?=some (.cells cur t (0,0))∧cs.length≤cur.size∧∀ (o:Nat) (l:Lf),cs[o]?=some l→cur[o]?=some (l.den β):=by
 cases x<;>first | (cases hl; done) | skip
 · cases hl
   refine ⟨_,h.2,by simp,fun o l ho=>by simp [ho]⟩
 · rename_i n sz
   cases hl
   obtain ⟨_,cur,h1,h2,h3,h4,h5,h6⟩:=h
   have hle:n*sz≤cur.size:=by rw [h5]; exact Nat.mul_le_mul_right _ h3
   refine ⟨cur,h1,by omega,fun o l ho=>?_⟩
   have ho2:o<cs.length:=(List.getElem?_eq_some_iff.1 ho).1
   have:(cs.map (Lf.den β))[o]?=some (l.den β):=by rw [List.getElem?_map,ho]; rfl
   rw [← h6,List.getElem?_take_of_lt (by omega)] at this
   simpa using this
 · cases hno
theorem lay_set {β:Env} {w:World} {g:Pl} {x:Ob} {cs:List Lf} {t:TypeId} (hl:x.layOf=some (cs,t)) (h:x.holds β w g) (o:Nat) (l:Lf) (ho:o<cs.length):(x.setC o l).holds β (w.setCell ⟨g.b,o,none⟩ (l.den β)) g:=by
 cases x<;>first | (cases hl; done) | skip
 · cases hl
   refine ⟨h.1,?_⟩
   rw [heap_set_at h.2]
   congr 2
   rw [List.map_set]
   simp
 · rename_i n sz
   cases hl
   obtain ⟨h0,cur,h1,h2,h3,h4,h5,h6⟩:=h
   refine ⟨h0,_,heap_set_at h1,by simpa using h2,h3,h4,by simpa using h5,?_⟩
   rw [List.map_set,← h6,Array.toList_setIfInBounds,List.take_set]
 · cases hl
   simp at ho
theorem Free.upd {ex:Nat→Bool} {obj:Nat→Option Ob} {i k:Nat} {cs:List Lf} {t:TypeId} {y:Ob} (hx:obj i=some y) (hl:y.layOf=some (cs,t)) {x:Ob} (h:Free ex (updO obj i x) k):Free ex obj k:=by
 by_cases e:k=i
 · rw [e]; exact Free.lay hx hl
 · unfold Free at h
   rw [updO_ne e] at h
   refine h.imp id fun ⟨h1,h2⟩=>⟨h1,fun j D hj hy=>h2 j D hj ?_⟩
   rw [updO_ne (fun e=>by rw [e,hx] at hy; exact (lay_al hl).1 _ _ (Option.some.inj hy))]
   exact hy
theorem upd_dead {obj:Nat→Option Ob} {i j:Nat} {x y:Ob} (hx:obj i=some y) (hy:y≠.dead) (h:updO obj i x j≠some .dead):obj j≠some .dead:=by
 by_cases e:j=i
 · rw [e,hx]; exact fun e=>hy (Option.some.inj e)
 · rwa [updO_ne e] at h
theorem low_upd {B0:Bd} {m0 i:Nat} {w0:World} {ex:Nat→Bool} {obj:Nat→Option Ob} {β:Env} {w:World} (h:Good B0 m0 w0 ex obj β w) {y z:Ob} (hx:obj i=some y) (hy:y.mine=true) :
  ∀ k x,ex k=true→m0≤k→updO obj i z k=some x→x.mine=true→B0.has (β k).b:=fun k x hk hm hkx hf=>by
 by_cases e:k=i
 · rw [e] at hk hm ⊢; exact h.lowm i y hk hm hx hy
 · rw [updO_ne e] at hkx; exact h.lowm k x hk hm hkx hf
theorem Good.put {B0:Bd} {m0 i o:Nat} {w0:World} {ex:Nat→Bool} {obj:Nat→Option Ob} {β:Env} {w:World} (h:Good B0 m0 w0 ex obj β w) (hi:ex i=true) {y:Ob} {cs:List Lf} {t:TypeId} (hx:obj i=some y) (hy:y.layOf=some (cs,t)) (hm:m0≤i) (ht:t≠278) (l:Lf) (hl:l.of ex=true) (ho:o<cs.length) :
  Good B0 m0 w0 ex (updO obj i (y.setC o l)) β (w.setCell ⟨(β i).b,o,none⟩ (l.den β)):=by
 have hbox:=(h.hold i _ hi hx).1
 obtain ⟨cur,hcur,hle,_⟩:=lay_cells hy (lay_noow hy ho) hbox
 have hfree:Free ex obj i:=Free.lay hx hy
 have hslot:Slot w (β i).b o 1:=⟨_,t,hcur,ht,by omega⟩
 have htouch:Touch w (w.setCell ⟨(β i).b,o,none⟩ (l.den β)) (β i).b o 1:=(Touch.refl w (β i).b o 1).set_ o ⟨Nat.le_refl _,by omega⟩ _
 refine ⟨h.bel.setCell (h.low i hi hm hfree) _,by rw [size_set]; exact h.le,?_,fun k hk=>by rw [size_set]; exact h.lt k hk,fun k j hk hj hne hm' hf hd=>h.ne k j hk hj hne hm' (hf.upd hx hy) (upd_dead hx (lay_al hy).2.1 hd),fun k x hk hm' hkx hf=>low_upd h hx (lay_mine hy) k x hk hm' hkx hf,h.fr,h.ar,fun k r D hk ho=>?_,fun k r D hk ho=>?_,fun k j hk hj hlt hm' hd ⟨N,hp⟩=>?_⟩
 · intro k x hk hko
   by_cases e:k=i
   · subst e
     rw [updO_eq] at hko
     obtain rfl:=Option.some.inj hko
     refine ⟨lay_set hy hbox o l ho,?_⟩
     have h1:=(h.hold k _ hk hx).2
     rw [lay_of hy] at h1
     rw [lay_of (setC_lay o l hy)]
     simp only [List.all_eq_true] at h1 ⊢
     intro y hy
     rcases List.mem_or_eq_of_mem_set hy with hy | rfl
     · exact h1 y hy
     · exact hl
   · rw [updO_ne e] at hko
     refine ⟨?_,(h.hold k x hk hko).2⟩
     have hh:=(h.hold k x hk hko).1
     by_cases hdd:x=.dead
     · rw [hdd]; exact trivial
     have hne:=h.ne i k hi hk e hm hfree (fun e=>hdd (Option.some.inj (hko.symm.trans e)))
     cases x with
     | box cs' t' =>
      simp only [Ob.holds] at hh ⊢
      rw [heap_set _ _ _ _ _ (fun e=>hne ((hh.1.1 _).2 e.symm))]
      exact hh
     | row cs' t' n' sz' =>
      simp only [Ob.holds] at hh ⊢
      rw [heap_set _ _ _ _ _ (fun e=>hne ((hh.1.1 _).2 e.symm))]
      exact hh
     | ow D u=>exact ⟨⟨hh.1.1,hh.1.2.1,by rw [heap_set _ _ _ _ _ (fun e=>hne (by rw [← e]; exact hh.1.1))]; exact hh.1.2.2⟩,D.st.touch w _ _ _ _ _ 0 hh.2 hslot.nw htouch hne⟩
     | th D=>exact D.st.touch w _ _ _ _ _ 0 hh hslot.nw htouch hne
     | al r D=>exact D.st.touch w _ _ _ _ _ 0 hh hslot.nw htouch hne
     | pl n=>exact ⟨hh.1,Slot.touch hh.2 htouch⟩
     | dead=>exact trivial
 · have e:k≠i:=fun e=>by
    rw [e,updO_eq] at ho
    exact (lay_al (setC_lay o l hy)).1 _ _ (Option.some.inj ho)
   rw [updO_ne e] at ho
   obtain ⟨h1,n,h2⟩:=h.al k r D hk ho
   exact ⟨h1,n,by rw [updO_ne (fun e=>by rw [e,hx] at h2; exact (lay_al hy).2.2 _ (Option.some.inj h2))]; exact h2⟩
 · have e:k≠i:=fun e=>by
    rw [e,updO_eq] at ho
    exact (lay_al (setC_lay o l hy)).1 _ _ (Option.some.inj ho)
   rw [updO_ne e] at ho
   exact h.alb k r D hk ho
 · have e:j≠i:=fun e=>by
    rw [e,updO_eq] at hp
    exact (lay_al (setC_lay o l hy)).2.2 _ (Option.some.inj hp)
   rw [updO_ne e] at hp
   exact h.ord k j hk hj hlt hm' (upd_dead hx (lay_al hy).2.1 hd) ⟨N,hp⟩
theorem Good.fill {B0:Bd} {m0 n i N:Nat} {w0:World} {ex:Nat→Bool} {obj:Nat→Option Ob} {β:Env} {w w':World} (h:Good B0 m0 w0 ex obj β w) (hi:ex i=true) (hx:obj i=some (.pl N)) (hm:m0≤i) (hin:i<n) (hn:ex n=false) (hβ:β n=β i) (hno:∀ k D,ex k=true→obj k≠some (.al i D))
  (ht:Touch w w' (β i).b 0 N) {D:Thing} (hD:D.D w' (β i)):Good B0 m0 w0 (addQ ex n) (updO obj n (.al i D)) β w':=by
 have hfree:Free ex obj i:=.inr ⟨⟨N,hx⟩,hno⟩
 obtain ⟨hone,hslot⟩:(β i).one∧Slot w (β i).b 0 N:=(h.hold i _ hi hx).1
 have hmono:∀ k,ex k=true→addQ ex n k=true:=fun k hk=>addQ_iff.2 (.inl hk)
 have hexn:∀ k,ex k=true→k≠n:=fun k hk e=>by rw [e,hn] at hk; cases hk
 have hfr:∀ k,ex k=true→Free (addQ ex n) (updO obj n (.al i D)) k→Free ex obj k∧k≠i:=fun k hk hf=>by
  refine ⟨hf.push hn hk,?_⟩
  rintro rfl
  unfold Free at hf
  rw [updO_ne (hexn k hk),hx] at hf
  rcases hf with ⟨x,e,p,hl⟩ | ⟨_,f⟩
  · rw [← Option.some.inj e] at hl; cases hl
  · exact f n D (addQ_iff.2 (.inr rfl)) (updO_eq ..)
 have hfn:¬ Free (addQ ex n) (updO obj n (.al i D)) n:=fun hf=>by
  unfold Free at hf
  rw [updO_eq] at hf
  rcases hf with ⟨x,e,p,hl⟩ | ⟨⟨m,e⟩,_⟩
  · rw [← Option.some.inj e] at hl; cases hl
  · cases e
 refine ⟨h.bel.touch ht (h.low i hi hm hfree) h.le,Nat.le_trans h.le ht.size,?_,?_,?_,?_,?_,fun k hk=>hmono k (h.ar k hk),al_upd h.al hn (fun r D' e=>by injection e with e1 _; subst e1; exact ⟨hi,N,hx⟩),?_,?_⟩
 · intro k o hk hko
   by_cases e:k=n
   · rw [e,updO_eq] at hko
     obtain rfl:=Option.some.inj hko
     rw [e]
     exact ⟨by rw [hβ]; exact hD,rfl⟩
   · rw [updO_ne e] at hko
     have hk1:=(addQ_iff.1 hk).elim id (fun a=>absurd a e)
     have hh:=(h.hold k o hk1 hko).1
     refine ⟨?_,Ob.of_mono hmono _ (h.hold k o hk1 hko).2⟩
     by_cases e2:k=i
     · rw [e2,hx] at hko
       obtain rfl:=Option.some.inj hko
       exact ⟨hh.1,Slot.touch hh.2 ht⟩
     · by_cases hdd:o=.dead
       · rw [hdd]; exact trivial
       have hne:=h.ne i k hi hk1 e2 hm hfree (fun e=>hdd (Option.some.inj (hko.symm.trans e)))
       cases o with
       | box cs' t' =>
        simp only [Ob.holds] at hh ⊢
        rw [ht.block _ (h.lt k hk1 _ ((hh.1.1 _).2 rfl)) (fun e=>hne ((hh.1.1 _).2 e.symm))]
        exact hh
       | row cs' t' n' sz' =>
        simp only [Ob.holds] at hh ⊢
        rw [ht.block _ (h.lt k hk1 _ ((hh.1.1 _).2 rfl)) (fun e=>hne ((hh.1.1 _).2 e.symm))]
        exact hh
       | ow D' u=>exact ⟨⟨hh.1.1,hh.1.2.1,by rw [ht.block _ (h.lt k hk1 _ hh.1.1) (fun e=>hne (by rw [← e]; exact hh.1.1))]; exact hh.1.2.2⟩,D'.st.touch w _ _ _ _ _ 0 hh.2 hslot.nw ht hne⟩
       | th D'=>exact D'.st.touch w _ _ _ _ _ 0 hh hslot.nw ht hne
       | al r D'=>exact D'.st.touch w _ _ _ _ _ 0 hh hslot.nw ht hne
       | pl m=>exact ⟨hh.1,Slot.touch hh.2 ht⟩
       | dead=>exact trivial
 · intro k hk c hc
   rcases addQ_iff.1 hk with hk | rfl
   · exact Nat.lt_of_lt_of_le (h.lt k hk c hc) ht.size
   · rw [hβ] at hc; exact Nat.lt_of_lt_of_le (h.lt i hi c hc) ht.size
 · intro k j hk hj hne hm' hf hd
   rcases addQ_iff.1 hk with hk1 | rfl
   · obtain ⟨hf1,hki⟩:=hfr k hk1 hf
     rcases addQ_iff.1 hj with hj1 | rfl
     · exact h.ne k j hk1 hj1 hne hm' hf1 (by rwa [updO_ne (hexn j hj1)] at hd)
     · rw [hβ]; exact h.ne k i hk1 hi (Ne.symm hki) hm' hf1 (by rw [hx]; exact fun e=>by cases e)
   · exact absurd hf hfn
 · intro k y hk hm' hy hf
   rcases addQ_iff.1 hk with hk1 | rfl
   · exact h.lowm k y hk1 hm' (by rwa [updO_ne (hexn k hk1)] at hy) hf
   · rw [updO_eq] at hy
     rw [← Option.some.inj hy] at hf
     cases hf
 · intro k hk hm' c hc
   rcases addQ_iff.1 hk with hk1 | rfl
   · exact h.fr k hk1 hm' c hc
   · rw [hβ] at hc; exact h.fr i hi hm c hc
 · intro k r D' hk hko
   by_cases e:k=n
   · rw [e,updO_eq] at hko
     have e1:=Option.some.inj hko
     injection e1 with e1 _
     rw [e,hβ,e1]
   · rw [updO_ne e] at hko
     exact h.alb k r D' ((addQ_iff.1 hk).elim id (fun a=>absurd a e)) hko
 · intro k j hk hj hlt hm' hd hp
   obtain ⟨M,hp⟩:=hp
   have ej:j≠n:=fun e=>by rw [e,updO_eq] at hp; cases hp
   rw [updO_ne ej] at hp
   have hj1:=(addQ_iff.1 hj).elim id (fun a=>absurd a ej)
   by_cases ek:k=n
   · rw [ek,hβ]
     exact h.ord i j hi hj1 (by omega) hm' (by rw [hx]; exact fun e=>by cases e) ⟨M,hp⟩
   · rw [updO_ne ek] at hd
     exact h.ord k j ((addQ_iff.1 hk).elim id (fun a=>absurd a ek)) hj1 hlt hm' hd ⟨M,hp⟩
theorem Good.weak {B0:Bd} {m0 i N:Nat} {w0:World} {ex:Nat→Bool} {obj:Nat→Option Ob} {β:Env} {w:World} (h:Good B0 m0 w0 ex obj β w) {cs:List Lf} {t:TypeId} (hx:obj i=some (.box cs t)) (ht:t≠278) (hN:N≤cs.length):Good B0 m0 w0 ex (updO obj i (.pl N)) β w:=by
 refine ⟨h.bel,h.le,?_,h.lt,fun k j hk hj hne hm hf hd=>h.ne k j hk hj hne hm (hf.upd hx rfl) (upd_dead hx (fun e=>by cases e) hd),fun k x hk hm hkx hf=>low_upd h hx rfl k x hk hm hkx hf,h.fr,h.ar,fun k r D hk ho=>?_,fun k r D hk ho=>?_,fun k j hk hj hlt hm hd hp=>?_⟩
 · intro k o hk hko
   by_cases e:k=i
   · subst e
     rw [updO_eq] at hko
     obtain rfl:=Option.some.inj hko
     have hb:=(h.hold k _ hk hx).1
     exact ⟨⟨hb.1,_,t,hb.2,ht,by simpa using hN⟩,rfl⟩
   · rw [updO_ne e] at hko
     exact h.hold k o hk hko
 · have e:k≠i:=fun e=>by rw [e,updO_eq] at ho; cases ho
   rw [updO_ne e] at ho
   obtain ⟨h1,n,h2⟩:=h.al k r D hk ho
   exact ⟨h1,n,by rw [updO_ne (fun e=>by rw [e,hx] at h2; cases h2)]; exact h2⟩
 · have e:k≠i:=fun e=>by rw [e,updO_eq] at ho; cases ho
   rw [updO_ne e] at ho
   exact h.alb k r D hk ho
 · have hd':=upd_dead hx (fun e=>by cases e) hd
   by_cases e:j=i
   · rw [e] at hm hlt ⊢
     exact h.ne i k (e▸hj) hk (by omega) hm (Free.box hx) hd'
   · obtain ⟨M,hp⟩:=hp
     rw [updO_ne e] at hp
     exact h.ord k j hk hj hlt hm hd' ⟨M,hp⟩
def killX (i k:Nat):Ob→Ob
 | .al r D=>bif Nat.beq r i then .dead else .al r D
 | .th D=>bif Nat.blt i k then .dead else .th D
 | .ow D t=>bif Nat.blt i k then .dead else .ow D t
 | x=>x
def Ob.solid:Ob→Bool
 | .box _ _=>true
 | .pl _=>true
 | .row _ _ _ _=>true
 | _=>false
def killA (i:Nat):List Ob→Nat→List Ob
 | [],_=>[]
 | x::l,k=>killX i k x::killA i l (k+1)
theorem killA_len (i:Nat):∀ (l:List Ob) (n:Nat),(killA i l n).length=l.length
 | [],_=>rfl
 | x::l,n=>congrArg (·+1) (killA_len i l (n+1))
theorem killA_get (i:Nat):∀ (l:List Ob) (n k:Nat),(killA i l n)[k]?=(l[k]?).map (killX i (n+k))
 | [],n,k=>by simp [killA]
 | x::l,n,0=>rfl
 | x::l,n,k+1=>by
  simp only [killA,List.getElem?_cons_succ]
  rw [killA_get i l (n+1) k,show n+1+k=n+(k+1) by omega]
theorem killX_or (i k:Nat) (x:Ob):killX i k x=.dead∨killX i k x=x:=by
 cases x<;>first | exact .inr rfl | (simp only [killX]; rw [cond_eq_ite]; split<;>first | exact .inl rfl | exact .inr rfl)
theorem killX_lay {i k:Nat} {x:Ob} (h:x.solid=true):killX i k x=x:=by
 cases x<;>first | (cases h; done) | rfl
theorem Good.killAll {B0:Bd} {m0 i N:Nat} {w0:World} {ex:Nat→Bool} {obj:Nat→Option Ob} {β:Env} {w:World} (h:Good B0 m0 w0 ex obj β w) (hi:ex i=true) (hx:obj i=some (.pl N)) (hm:m0≤i) (hsome:∀ k,ex k=true→obj k≠none):Good B0 m0 w0 ex (fun k=>(obj k).map (killX i k)) β w:=by
 have hget:∀ {k:Nat} {y:Ob},(obj k).map (killX i k)=some y→y≠.dead→obj k=some y:=fun {k y} e hd=>by
  cases ho:obj k with
  | none=>rw [ho] at e; cases e
  | some x =>
   rw [ho] at e
   have e:=Option.some.inj e
   rcases killX_or i k x with e2 | e2
   · exact absurd (e.symm.trans e2) hd
   · rw [← e,e2]
 have hkeep:∀ {k:Nat} {y:Ob},obj k=some y→y.solid=true→(obj k).map (killX i k)=some y:=fun e hy=>by
  rw [e]; exact congrArg some (killX_lay hy)
 have hone:=(h.hold i _ hi hx).1.1
 have hlive:∀ {k:Nat},(obj k).map (killX i k)≠some .dead→obj k≠some .dead:=fun hd e=>hd (by rw [e]; rfl)
 have hfar:∀ j,ex j=true→j≠i→(obj j).map (killX i j)≠some .dead→¬ (β j).F (β i).b:=by
  intro j hj hne hd hc
  by_cases hlt:j<i
  · exact h.ord j i hj hi hlt hm (hlive hd) ⟨_,hx⟩ hc
  have hij:i<j:=by omega
  have key:∀ r,ex r=true→r≠i→(∃ M,obj r=some (.pl M))→¬ (β r).F (β i).b:=by
   intro r hr hri hp hc
   obtain ⟨M,hp⟩:=hp
   by_cases hlt:r<i
   · exact h.ord r i hr hi hlt hm (by rw [hp]; exact fun e=>by cases e) ⟨_,hx⟩ hc
   · refine h.ord i r hi hr (by omega) (by omega) (by rw [hx]; exact fun e=>by cases e) ⟨_,hp⟩ ?_
     have h1:=(((h.hold r _ hr hp).1.1).1 _).1 hc
     rw [← h1]
     exact (hone.1 _).2 rfl
  cases ho:obj j with
  | none=>exact hsome j hj ho
  | some y =>
   have hfree:∀ p,y.layOf=some p→(β j).one→False:=fun p hp hj1=>by
    refine h.ne j i hj hi (Ne.symm hne) (by omega) (Free.lay ho hp) (by rw [hx]; exact fun e=>by cases e) ?_
    have h1:=(hj1.1 _).1 hc
    rw [← h1]
    exact (hone.1 _).2 rfl
   cases y with
   | box cs t=>exact hfree _ rfl (h.hold j _ hj ho).1.1
   | row cs t n sz=>exact hfree _ rfl (h.hold j _ hj ho).1.1
   | ow D t =>
    rw [ho] at hd
    refine hd (congrArg some ?_)
    simp only [killX,show i.blt j=true from by rw [Nat.blt_eq]; exact hij,cond_true]
   | pl M=>exact key j hj hne ⟨M,ho⟩ hc
   | dead=>rw [ho] at hd; exact hd rfl
   | th D =>
    rw [ho] at hd
    refine hd (congrArg some ?_)
    simp only [killX,show i.blt j=true from by rw [Nat.blt_eq]; exact hij,cond_true]
   | al r D =>
    obtain ⟨hr,hp⟩:=h.al j r D hj ho
    rw [h.alb j r D hj ho] at hc
    refine key r hr ?_ hp hc
    rintro rfl
    rw [ho] at hd
    refine hd (congrArg some ?_)
    simp only [killX,Nat.beq_refl,cond_true]
 have hfree:∀ k,ex k=true→Free ex (fun k=>(obj k).map (killX i k)) k→k=i∨Free ex obj k:=by
  intro k hk hf
  by_cases e:k=i
  · exact .inl e
  refine .inr ?_
  rcases hf with ⟨x,e1,p,hl⟩ | ⟨⟨n,e1⟩,f⟩
  · exact .inl ⟨x,hget e1 (lay_al hl).2.1,p,hl⟩
  · refine .inr ⟨⟨n,hget e1 fun e=>by cases e⟩,fun j D hj ho=>f j D hj ?_⟩
    dsimp only
    rw [ho]
    refine congrArg some ?_
    simp only [killX]
    rw [show Nat.beq k i=false from by rw [Bool.eq_false_iff]; exact fun h=>e (Nat.eq_of_beq_eq_true h)]
    rfl
 refine ⟨h.bel,h.le,?_,h.lt,?_,?_,h.fr,h.ar,?_,?_,?_⟩
 · intro k o hk hko
   by_cases hd:o=.dead
   · rw [hd]; exact ⟨trivial,rfl⟩
   · exact h.hold k o hk (hget hko hd)
 · intro k j hk hj hne hm' hf hd
   rcases hfree k hk hf with rfl | hf
   · exact hfar j hj hne hd
   · exact h.ne k j hk hj hne hm' hf (hlive hd)
 · intro k y hk hm' hy hf
   exact h.lowm k y hk hm' (hget hy fun e=>by rw [e] at hf; cases hf) hf
 · intro k r D hk ho
   obtain ⟨h1,n,h2⟩:=h.al k r D hk (hget ho fun e=>by cases e)
   exact ⟨h1,n,hkeep h2 rfl⟩
 · exact fun k r D hk ho=>h.alb k r D hk (hget ho fun e=>by cases e)
 · exact fun k j hk hj hlt hm' hd ⟨M,hp⟩=>h.ord k j hk hj hlt hm' (hlive hd) ⟨M,hget hp fun e=>by cases e⟩
theorem Good.refill {B0:Bd} {m0 n i N:Nat} {w0:World} {ex:Nat→Bool} {obj:Nat→Option Ob} {β:Env} {w w':World} (h:Good B0 m0 w0 ex obj β w) (hi:ex i=true) (hx:obj i=some (.pl N)) (hm:m0≤i) (hin:i<n) (hn:ex n=false) (hβ:β n=β i)
  (ht:Touch w w' (β i).b 0 N) {D:Thing} (hD:D.D w' (β i)) (hsome:∀ k,ex k=true→obj k≠none):Good B0 m0 w0 (addQ ex n) (updO (fun k=>(obj k).map (killX i k)) n (.al i D)) β w' :=
 (h.killAll hi hx hm hsome).fill hi (by rw [hx]; rfl) hm hin hn hβ (fun k D' _ e=>by
  cases ho:obj k with
  | none=>rw [ho] at e; cases e
  | some x =>
   rw [ho] at e
   have e:=Option.some.inj e
   cases x<;>simp only [killX] at e<;>first | (cases e; done) | (rw [cond_eq_ite] at e; split at e<;>cases e; done) | skip
   rename_i r D2
   rw [cond_eq_ite] at e
   split at e
   · cases e
   · rename_i hr
     obtain ⟨rfl,_⟩:=Ob.al.inj e
     exact hr (Nat.beq_refl _)) ht hD
theorem Good.kill {B0:Bd} {m0 i:Nat} {w0:World} {ex:Nat→Bool} {obj:Nat→Option Ob} {β:Env} {w:World} (h:Good B0 m0 w0 ex obj β w) {y:Ob} {p:List Lf × TypeId} (hx:obj i=some y) (hy:y.layOf=some p):Good B0 m0 w0 ex (updO obj i .dead) β w:=by
 refine ⟨h.bel,h.le,?_,h.lt,fun k j hk hj hne hm hf hd=>h.ne k j hk hj hne hm (hf.upd hx hy) (fun e=>?_),fun k x hk hm hkx hf=>low_upd h hx (lay_mine hy) k x hk hm hkx hf,h.fr,h.ar,fun k r D hk ho=>?_,fun k r D hk ho=>?_,fun k j hk hj hlt hm hd hp=>?_⟩
 · intro k o hk hko
   by_cases e:k=i
   · subst e
     rw [updO_eq] at hko
     obtain rfl:=Option.some.inj hko
     exact ⟨trivial,rfl⟩
   · rw [updO_ne e] at hko
     exact h.hold k o hk hko
 · by_cases e2:j=i
   · rw [e2,updO_eq] at hd; exact hd rfl
   · rw [updO_ne e2] at hd; exact hd e
 · have e:k≠i:=fun e=>by rw [e,updO_eq] at ho; cases ho
   rw [updO_ne e] at ho
   obtain ⟨h1,n,h2⟩:=h.al k r D hk ho
   exact ⟨h1,n,by rw [updO_ne (fun e=>by rw [e,hx] at h2; exact (lay_al hy).2.2 _ (Option.some.inj h2))]; exact h2⟩
 · have e:k≠i:=fun e=>by rw [e,updO_eq] at ho; cases ho
   rw [updO_ne e] at ho
   exact h.alb k r D hk ho
 · obtain ⟨M,hp⟩:=hp
   have e:j≠i:=fun e=>by rw [e,updO_eq] at hp; cases hp
   rw [updO_ne e] at hp
   have e2:k≠i:=fun e=>by rw [e,updO_eq] at hd; exact hd rfl
   rw [updO_ne e2] at hd
   exact h.ord k j hk hj hlt hm hd ⟨M,hp⟩
theorem Good.more {B0:Bd} {m0 n i N:Nat} {w0:World} {ex:Nat→Bool} {obj:Nat→Option Ob} {β:Env} {w w':World} (h:Good B0 m0 w0 ex obj β w) (hi:ex i=true) {y:Ob} {p:List Lf × TypeId} (hx:obj i=some y) (hy:y.layOf=some p) (hm:m0≤i) (hin:i<n) (hn:ex n=false) (hβ:β n=β i)
  (hslot:Slot w (β i).b 0 N) (ht:Touch w w' (β i).b 0 N) {x:Ob} (hx2:x.holds β w' (β i)) (ho2:x.of ex=true) {p2:List Lf × TypeId} (hl2:x.layOf=some p2):Good B0 m0 w0 (addQ ex n) (updO (updO obj i .dead) n x) β w':=by
 have hfree:Free ex obj i:=Free.lay hx hy
 have hone:=h.bF hi hfree
 have hmono:∀ k,ex k=true→addQ ex n k=true:=fun k hk=>addQ_iff.2 (.inl hk)
 have hexn:∀ k,ex k=true→k≠n:=fun k hk e=>by rw [e,hn] at hk; cases hk
 have hin:i≠n:=hexn i hi
 have hfr:∀ k,ex k=true→Free (addQ ex n) (updO (updO obj i .dead) n x) k→Free ex obj k∧k≠i:=fun k hk hf=>by
  have hf1:=hf.push hn hk
  refine ⟨hf1.upd hx hy,?_⟩
  rintro rfl
  unfold Free at hf1
  rw [updO_eq] at hf1
  rcases hf1 with ⟨x,e,p,hl⟩ | ⟨⟨m,e⟩,_⟩
  · rw [← Option.some.inj e] at hl; cases hl
  · cases e
 refine ⟨h.bel.touch ht (h.low i hi hm hfree) h.le,Nat.le_trans h.le ht.size,?_,?_,?_,?_,?_,fun k hk=>hmono k (h.ar k hk),?_,?_,?_⟩
 · intro k o hk hko
   by_cases e:k=n
   · rw [e,updO_eq] at hko
     obtain rfl:=Option.some.inj hko
     rw [e]
     exact ⟨by rw [hβ]; exact hx2,Ob.of_mono hmono _ ho2⟩
   · rw [updO_ne e] at hko
     have hk1:=(addQ_iff.1 hk).elim id (fun a=>absurd a e)
     by_cases e2:k=i
     · rw [e2,updO_eq] at hko
       obtain rfl:=Option.some.inj hko
       exact ⟨trivial,rfl⟩
     rw [updO_ne e2] at hko
     have hh:=(h.hold k o hk1 hko).1
     refine ⟨?_,Ob.of_mono hmono _ (h.hold k o hk1 hko).2⟩
     by_cases hdd:o=.dead
     · rw [hdd]; exact trivial
     have hne:=h.ne i k hi hk1 e2 hm hfree (fun e=>hdd (Option.some.inj (hko.symm.trans e)))
     cases o with
     | box cs' t' =>
      simp only [Ob.holds] at hh ⊢
      rw [ht.block _ (h.lt k hk1 _ ((hh.1.1 _).2 rfl)) (fun e=>hne ((hh.1.1 _).2 e.symm))]
      exact hh
     | row cs' t' n' sz' =>
      simp only [Ob.holds] at hh ⊢
      rw [ht.block _ (h.lt k hk1 _ ((hh.1.1 _).2 rfl)) (fun e=>hne ((hh.1.1 _).2 e.symm))]
      exact hh
     | ow D' u=>exact ⟨⟨hh.1.1,hh.1.2.1,by rw [ht.block _ (h.lt k hk1 _ hh.1.1) (fun e=>hne (by rw [← e]; exact hh.1.1))]; exact hh.1.2.2⟩,D'.st.touch w _ _ _ _ _ 0 hh.2 hslot.nw ht hne⟩
     | th D'=>exact D'.st.touch w _ _ _ _ _ 0 hh hslot.nw ht hne
     | al r D'=>exact D'.st.touch w _ _ _ _ _ 0 hh hslot.nw ht hne
     | pl m=>exact ⟨hh.1,Slot.touch hh.2 ht⟩
     | dead=>exact trivial
 · intro k hk c hc
   rcases addQ_iff.1 hk with hk | rfl
   · exact Nat.lt_of_lt_of_le (h.lt k hk c hc) ht.size
   · rw [hβ] at hc; exact Nat.lt_of_lt_of_le (h.lt i hi c hc) ht.size
 · intro k j hk hj hne hm' hf hd
   have hb1:=hone
   rcases addQ_iff.1 hk with hk1 | rfl
   · obtain ⟨hf1,hki⟩:=hfr k hk1 hf
     rcases addQ_iff.1 hj with hj1 | rfl
     · refine h.ne k j hk1 hj1 hne hm' hf1 fun e=>?_
       rw [updO_ne (hexn j hj1)] at hd
       by_cases e2:j=i
       · rw [e2,updO_eq] at hd; exact hd rfl
       · rw [updO_ne e2] at hd; exact hd e
     · rw [hβ]; exact h.ne k i hk1 hi (Ne.symm hki) hm' hf1 (by rw [hx]; exact fun e=>(lay_al hy).2.1 (Option.some.inj e))
   · rw [hβ]
     rcases addQ_iff.1 hj with hj1 | e2
     · rw [updO_ne (hexn j hj1)] at hd
       by_cases e2:j=i
       · rw [e2,updO_eq] at hd; exact absurd rfl hd
       · rw [updO_ne e2] at hd
         exact h.ne i j hi hj1 e2 hm hfree hd
     · exact absurd e2 hne
 · intro k z hk hm' hz hf
   rcases addQ_iff.1 hk with hk1 | rfl
   · rw [updO_ne (hexn k hk1)] at hz
     exact low_upd h hx (lay_mine hy) k z hk1 hm' hz hf
   · rw [hβ]; exact h.low i hi hm hfree
 · intro k hk hm' c hc
   rcases addQ_iff.1 hk with hk1 | rfl
   · exact h.fr k hk1 hm' c hc
   · rw [hβ] at hc; exact h.fr i hi hm c hc
 · intro k r D hk hko
   by_cases e:k=n
   · rw [e,updO_eq] at hko
     exact absurd (Option.some.inj hko) ((lay_al hl2).1 _ _)
   rw [updO_ne e] at hko
   have e2:k≠i:=fun e=>by rw [e,updO_eq] at hko; cases hko
   rw [updO_ne e2] at hko
   obtain ⟨h1,m,h2⟩:=h.al k r D ((addQ_iff.1 hk).elim id (fun a=>absurd a e)) hko
   refine ⟨hmono r h1,m,?_⟩
   rw [updO_ne (hexn r h1),updO_ne (fun e=>by rw [e,hx] at h2; exact (lay_al hy).2.2 _ (Option.some.inj h2))]
   exact h2
 · intro k r D hk hko
   by_cases e:k=n
   · rw [e,updO_eq] at hko
     exact absurd (Option.some.inj hko) ((lay_al hl2).1 _ _)
   rw [updO_ne e] at hko
   have e2:k≠i:=fun e=>by rw [e,updO_eq] at hko; cases hko
   rw [updO_ne e2] at hko
   exact h.alb k r D ((addQ_iff.1 hk).elim id (fun a=>absurd a e)) hko
 · intro k j hk hj hlt hm' hd hp
   obtain ⟨M,hp⟩:=hp
   have ej:j≠n:=fun e=>by
    rw [e,updO_eq] at hp
    exact (lay_al hl2).2.2 _ (Option.some.inj hp)
   rw [updO_ne ej] at hp
   have ej2:j≠i:=fun e=>by rw [e,updO_eq] at hp; cases hp
   rw [updO_ne ej2] at hp
   have hj1:=(addQ_iff.1 hj).elim id (fun a=>absurd a ej)
   by_cases ek:k=n
   · rw [ek,hβ]
     exact h.ord i j hi hj1 (by omega) hm' (by rw [hx]; exact fun e=>(lay_al hy).2.1 (Option.some.inj e)) ⟨M,hp⟩
   · rw [updO_ne ek] at hd
     have ek2:k≠i:=fun e=>by rw [e,updO_eq] at hd; exact hd rfl
     rw [updO_ne ek2] at hd
     exact h.ord k j ((addQ_iff.1 hk).elim id (fun a=>absurd a ek)) hj1 hlt hm' hd ⟨M,hp⟩
theorem Good.repl {B0:Bd} {m0 n:Nat} {w0:World} {ex:Nat→Bool} {obj obj1:Nat→Option Ob} {β:Env} {w w':World} (h:Good B0 m0 w0 ex obj β w) (oi:Option Nat) (hoi:∀ i,oi=some i→ex i=true∧m0≤i∧∃ y p,obj i=some y∧y.layOf=some p)
  (hk1:∀ k,oi≠some k→obj1 k=obj k) (hk2:∀ k,oi=some k→obj1 k=some .dead) (hn:ex n=false) (hexlt:∀ k,ex k=true→k<n)
  (hT:(w.heap.size≤(β n).b∧Below w.heap.size w w')∨∃ i,oi=some i∧(β n).b=(β i).b∧∃ N,Slot w (β n).b 0 N∧Touch w w' (β n).b 0 N)
  (hself:(β n).F (β n).b) (hlt:∀ c,(β n).F c→c<w'.heap.size)
  (hF:∀ c,(β n).F c→c=(β n).b∨(∃ i,oi=some i∧(β i).F c)∨∃ j z,ex j=true∧obj j=some z∧z.isTh=true∧(β j).F c)
  {x:Ob} {p2:List Lf × TypeId} (hx:x.holds β w' (β n)) (ho:x.of (addQ ex n)=true) (hl2:x.layOf=some p2):Good B0 m0 w0 (addQ ex n) (updO obj1 n x) β w':=by
 have hmono:∀ k,ex k=true→addQ ex n k=true:=fun k hk=>addQ_iff.2 (.inl hk)
 have hexn:∀ k,ex k=true→k≠n:=fun k hk e=>by rw [e,hn] at hk; cases hk
 have hold1:∀ k y,obj1 k=some y→y≠.dead→obj k=some y∧oi≠some k:=fun k y e hd=>by
  by_cases hc:oi=some k
  · rw [hk2 k hc] at e; exact absurd (Option.some.inj e).symm hd
  · rw [hk1 k hc] at e; exact ⟨e,hc⟩
 have hlive:∀ k,obj1 k≠some .dead→obj k≠some .dead∧oi≠some k:=fun k hd=>by
  by_cases hc:oi=some k
  · exact absurd (hk2 k hc) hd
  · rw [hk1 k hc] at hd; exact ⟨hd,hc⟩
 have hfi:∀ i,oi=some i→Free ex obj i:=fun i hi=>by
  obtain ⟨_,_,y,p,e,hl⟩:=hoi i hi
  exact Free.lay e hl
 have hid:∀ i,oi=some i→obj i≠some .dead:=fun i hi e=>by
  obtain ⟨_,_,y,p,e2,hl⟩:=hoi i hi
  rw [e] at e2
  rw [← Option.some.inj e2] at hl
  cases hl
 have hfr:∀ k,ex k=true→Free (addQ ex n) (updO obj1 n x) k→Free ex obj k∧oi≠some k:=fun k hk hf=>by
  have hf1:=hf.push hn hk
  rcases hf1 with ⟨y,e,p,hl⟩ | ⟨⟨m,e⟩,f⟩
  · obtain ⟨a,b⟩:=hold1 k y e (lay_al hl).2.1
    exact ⟨.inl ⟨y,a,p,hl⟩,b⟩
  · obtain ⟨a,b⟩:=hold1 k _ e (fun e=>by cases e)
    refine ⟨.inr ⟨⟨m,a⟩,fun j D hj hx=>f j D hj ?_⟩,b⟩
    rw [hk1 j fun hc=>?_]
    · exact hx
    · obtain ⟨_,_,y,p,e2,hl⟩:=hoi j hc
      rw [hx] at e2
      rw [← Option.some.inj e2] at hl
      cases hl
 have hnn:∀ k,ex k=true→m0≤k→Free ex obj k→oi≠some k→¬ (β n).F (β k).b:=fun k hk hm hf hne hc=>by
  have hks:=h.bF hk hf
  rcases hF _ hc with e | ⟨i,hi,hc2⟩ | ⟨j,z,hj,hz,hth,hc2⟩
  · rcases hT with ⟨h1,_⟩ | ⟨i,hi,e2,_⟩
    · have:=h.lt k hk _ hks
      omega
    · have hii:=h.bF (hoi i hi).1 (hfi i hi)
      rw [← e2,← e] at hii
      exact h.ne k i hk (hoi i hi).1 (fun e=>hne (e▸hi)) hm hf (hid i hi) hii
  · exact h.ne k i hk (hoi i hi).1 (fun e=>hne (e▸hi)) hm hf (hid i hi) hc2
  · refine h.ne k j hk hj (fun e=>?_) hm hf (fun e=>?_) hc2
    · rw [e] at hz
      rcases hf with ⟨y,e2,p,hl⟩ | ⟨⟨m,e2⟩,_⟩
      · rw [hz] at e2; obtain rfl:=Option.some.inj e2; cases z<;>first | (cases hth; done) | (cases hl; done)
      · rw [hz] at e2; obtain rfl:=Option.some.inj e2; cases hth
    · rw [hz] at e; obtain rfl:=Option.some.inj e; cases hth
 have hlow:B0.has (β n).b:=by
  rcases hT with ⟨h1,_⟩ | ⟨i,hi,e2,_⟩
  · exact .inl (Nat.le_trans h.le h1)
  · rw [e2]; exact h.low i (hoi i hi).1 (hoi i hi).2.1 (hfi i hi)
 have hsz:w.heap.size≤w'.heap.size:=by
  rcases hT with ⟨_,hb⟩ | ⟨i,hi,e2,N,hs,ht⟩
  · exact hb.size
  · exact ht.size
 refine ⟨?_,Nat.le_trans h.le hsz,?_,?_,?_,?_,?_,fun k hk=>hmono k (h.ar k hk),?_,?_,?_⟩
 · rcases hT with ⟨_,hb⟩ | ⟨i,hi,e2,N,hs,ht⟩
   · exact h.bel.on h.le hb
   · exact h.bel.touch ht hlow h.le
 · intro k o hk hko
   by_cases e:k=n
   · rw [e,updO_eq] at hko
     obtain rfl:=Option.some.inj hko
     rw [e]
     exact ⟨hx,ho⟩
   · rw [updO_ne e] at hko
     have hk1':=(addQ_iff.1 hk).elim id (fun a=>absurd a e)
     by_cases hdd:o=.dead
     · rw [hdd]; exact ⟨trivial,rfl⟩
     obtain ⟨hok,hne⟩:=hold1 k o hko hdd
     have hh:=(h.hold k o hk1' hok).1
     refine ⟨?_,Ob.of_mono hmono _ (h.hold k o hk1' hok).2⟩
     rcases hT with ⟨_,hb⟩ | ⟨i,hi,e2,N,hs,ht⟩
     · exact Ob.holds_on hb o hh
     have hnF:¬ (β k).F (β n).b:=by
      rw [e2]
      exact h.ne i k (hoi i hi).1 hk1' (fun e=>hne (e▸hi)) (hoi i hi).2.1 (hfi i hi) (fun e=>hdd (Option.some.inj (hok.symm.trans e)))
     cases o with
     | box cs' t' =>
      simp only [Ob.holds] at hh ⊢
      rw [ht.block _ (h.lt k hk1' _ ((hh.1.1 _).2 rfl)) (fun e=>hnF ((hh.1.1 _).2 e.symm))]
      exact hh
     | row cs' t' n' sz' =>
      simp only [Ob.holds] at hh ⊢
      rw [ht.block _ (h.lt k hk1' _ ((hh.1.1 _).2 rfl)) (fun e=>hnF ((hh.1.1 _).2 e.symm))]
      exact hh
     | ow D' u=>exact ⟨⟨hh.1.1,hh.1.2.1,by rw [ht.block _ (h.lt k hk1' _ hh.1.1) (fun e=>hnF (by rw [← e]; exact hh.1.1))]; exact hh.1.2.2⟩,D'.st.touch w _ _ _ _ _ 0 hh.2 hs.nw ht hnF⟩
     | th D'=>exact D'.st.touch w _ _ _ _ _ 0 hh hs.nw ht hnF
     | al r D'=>exact D'.st.touch w _ _ _ _ _ 0 hh hs.nw ht hnF
     | pl m=>exact ⟨hh.1,Slot.touch hh.2 ht⟩
     | dead=>exact trivial
 · intro k hk c hc
   rcases addQ_iff.1 hk with hk | rfl
   · exact Nat.lt_of_lt_of_le (h.lt k hk c hc) hsz
   · exact hlt c hc
 · intro k j hk hj hne hm' hf hd
   rcases addQ_iff.1 hk with hk1' | e1
   · obtain ⟨hf1,hki⟩:=hfr k hk1' hf
     rcases addQ_iff.1 hj with hj1 | e2
     · rw [updO_ne (hexn j hj1)] at hd
       exact h.ne k j hk1' hj1 hne hm' hf1 (hlive j hd).1
     · rw [e2]; exact hnn k hk1' hm' hf1 hki
   · rcases addQ_iff.1 hj with hj1 | e2
     · rw [updO_ne (hexn j hj1)] at hd
       obtain ⟨hd1,hd2⟩:=hlive j hd
       rw [e1]
       intro hc
       rcases hT with ⟨h1,_⟩ | ⟨i,hi,e3,_⟩
       · have:=h.lt j hj1 _ hc
         omega
       · rw [e3] at hc
         exact h.ne i j (hoi i hi).1 hj1 (fun e=>hd2 (e▸hi)) (hoi i hi).2.1 (hfi i hi) hd1 hc
     · exact absurd (by rw [e1,e2]) hne
 · intro k z hk hm' hz hf
   rcases addQ_iff.1 hk with hk1' | rfl
   · rw [updO_ne (hexn k hk1')] at hz
     exact h.lowm k z hk1' hm' (hold1 k z hz (fun e=>by rw [e] at hf; cases hf)).1 hf
   · exact hlow
 · intro k hk hm' c hc
   rcases addQ_iff.1 hk with hk1' | rfl
   · exact h.fr k hk1' hm' c hc
   · rcases hF _ hc with e | ⟨i,hi,hc2⟩ | ⟨j,z,hj,hz,hth,hc2⟩
     · rw [e]; exact .inl (.inl hlow)
     · exact h.fr i (hoi i hi).1 (hoi i hi).2.1 c hc2
     · by_cases hjm:m0≤j
       · exact h.fr j hj hjm c hc2
       · exact .inr ⟨j,by omega,hc2⟩
 · intro k r D hk hko
   have e:k≠n:=fun e=>by
    rw [e,updO_eq] at hko
    exact (lay_al hl2).1 _ _ (Option.some.inj hko)
   rw [updO_ne e] at hko
   obtain ⟨a,b⟩:=hold1 k _ hko (fun e=>by cases e)
   obtain ⟨h1,m,h2⟩:=h.al k r D ((addQ_iff.1 hk).elim id (fun a=>absurd a e)) a
   refine ⟨hmono r h1,m,?_⟩
   rw [updO_ne (hexn r h1),hk1 r fun hc=>?_]
   · exact h2
   · obtain ⟨_,_,y,p,e2,hl⟩:=hoi r hc
     rw [h2] at e2
     rw [← Option.some.inj e2] at hl
     cases hl
 · intro k r D hk hko
   have e:k≠n:=fun e=>by
    rw [e,updO_eq] at hko
    exact (lay_al hl2).1 _ _ (Option.some.inj hko)
   rw [updO_ne e] at hko
   exact h.alb k r D ((addQ_iff.1 hk).elim id (fun a=>absurd a e)) (hold1 k _ hko (fun e=>by cases e)).1
 · intro k j hk hj hlt' hm' hd hp
   obtain ⟨M,hp⟩:=hp
   have ej:j≠n:=fun e=>by
    rw [e,updO_eq] at hp
    exact (lay_al hl2).2.2 _ (Option.some.inj hp)
   rw [updO_ne ej] at hp
   have hj1:=(addQ_iff.1 hj).elim id (fun a=>absurd a ej)
   have hpo:=(hold1 j _ hp (fun e=>by cases e)).1
   rcases addQ_iff.1 hk with hk1' | ek
   · rw [updO_ne (hexn k hk1')] at hd
     exact h.ord k j hk1' hj1 hlt' hm' (hlive k hd).1 ⟨M,hpo⟩
   · have:=hexlt j hj1
     omega
theorem Good.chg {B0:Bd} {m0 i:Nat} {w0:World} {ex:Nat→Bool} {obj:Nat→Option Ob} {β:Env} {w w':World} (h:Good B0 m0 w0 ex obj β w) (hi:ex i=true) (hm:m0≤i) {D D':Thing} {t t':TypeId} (hx:obj i=some (.ow D t))
  (hw:NW w (β i).b) {o n:Nat} (ht:Touch w w' (β i).b o n) (hD:(Ob.ow D' t').holds β w' (β i)):Good B0 m0 w0 ex (updO obj i (.ow D' t')) β w':=by
 have hfree:Free ex obj i:=Free.lay hx rfl
 have hlow:=h.low i hi hm hfree
 refine ⟨h.bel.touch ht hlow h.le,Nat.le_trans h.le ht.size,?_,fun k hk c hc=>Nat.lt_of_lt_of_le (h.lt k hk c hc) ht.size,
  fun k j hk hj hne hm hf hd=>h.ne k j hk hj hne hm (hf.upd hx rfl) (upd_dead hx (fun e=>by cases e) hd),fun k x hk hm hkx hf=>low_upd h hx rfl k x hk hm hkx hf,h.fr,h.ar,fun k r D' hk ho=>?_,fun k r D' hk ho=>?_,fun k j hk hj hlt hm hd hp=>?_⟩
 · intro k o hk hko
   by_cases e:k=i
   · subst e
     rw [updO_eq] at hko
     obtain rfl:=Option.some.inj hko
     exact ⟨hD,rfl⟩
   · rw [updO_ne e] at hko
     refine ⟨?_,(h.hold k o hk hko).2⟩
     have hh:=(h.hold k o hk hko).1
     by_cases hdd:o=.dead
     · rw [hdd]; exact trivial
     have hne:=h.ne i k hi hk e hm hfree (fun e=>hdd (Option.some.inj (hko.symm.trans e)))
     have hblk:(β k).one→w'.heap[(β k).b]?=w.heap[(β k).b]?:=fun h1=>ht.block _ (h.lt k hk _ ((h1.1 _).2 rfl)) fun e=>hne ((h1.1 _).2 e.symm)
     cases o with
     | box cs' t' =>
      simp only [Ob.holds] at hh ⊢
      rw [hblk hh.1]
      exact hh
     | row cs' t' n' sz' =>
      simp only [Ob.holds] at hh ⊢
      rw [hblk hh.1]
      exact hh
     | ow D u=>exact ⟨⟨hh.1.1,hh.1.2.1,by rw [ht.block _ (h.lt k hk _ hh.1.1) (fun e=>hne (by rw [← e]; exact hh.1.1))]; exact hh.1.2.2⟩,D.st.touch w _ _ _ _ _ 0 hh.2 hw ht hne⟩
     | th D=>exact D.st.touch w _ _ _ _ _ 0 hh hw ht hne
     | al r D=>exact D.st.touch w _ _ _ _ _ 0 hh hw ht hne
     | pl n=>exact ⟨hh.1,Slot.touch hh.2 ht⟩
     | dead=>exact trivial
 · have e:k≠i:=fun e=>by rw [e,updO_eq] at ho; cases ho
   rw [updO_ne e] at ho
   obtain ⟨h1,n,h2⟩:=h.al k r D' hk ho
   exact ⟨h1,n,by rw [updO_ne (fun e=>by rw [e,hx] at h2; cases h2)]; exact h2⟩
 · have e:k≠i:=fun e=>by rw [e,updO_eq] at ho; cases ho
   rw [updO_ne e] at ho
   exact h.alb k r D' hk ho
 · obtain ⟨N,hp⟩:=hp
   have e:j≠i:=fun e=>by rw [e,updO_eq] at hp; cases hp
   rw [updO_ne e] at hp
   exact h.ord k j hk hj hlt hm (upd_dead hx (fun e=>by cases e) hd) ⟨N,hp⟩
theorem Good.frz {B0:Bd} {m0 i:Nat} {w0:World} {ex:Nat→Bool} {obj:Nat→Option Ob} {β:Env} {w:World} (h:Good B0 m0 w0 ex obj β w) {D:Thing} {t:TypeId} (hx:obj i=some (.ow D t)):Good B0 m0 w0 ex (updO obj i (.th D)) β w:=by
 refine ⟨h.bel,h.le,?_,h.lt,fun k j hk hj hne hm hf hd=>h.ne k j hk hj hne hm (hf.upd hx rfl) (upd_dead hx (fun e=>by cases e) hd),fun k x hk hm hkx hf=>low_upd h hx rfl k x hk hm hkx hf,h.fr,h.ar,fun k r D' hk ho=>?_,fun k r D' hk ho=>?_,fun k j hk hj hlt hm hd hp=>?_⟩
 · intro k o hk hko
   by_cases e:k=i
   · subst e
     rw [updO_eq] at hko
     obtain rfl:=Option.some.inj hko
     exact ⟨(h.hold k _ hk hx).1.2,rfl⟩
   · rw [updO_ne e] at hko
     exact h.hold k o hk hko
 · have e:k≠i:=fun e=>by rw [e,updO_eq] at ho; cases ho
   rw [updO_ne e] at ho
   obtain ⟨h1,n,h2⟩:=h.al k r D' hk ho
   exact ⟨h1,n,by rw [updO_ne (fun e=>by rw [e,hx] at h2; cases h2)]; exact h2⟩
 · have e:k≠i:=fun e=>by rw [e,updO_eq] at ho; cases ho
   rw [updO_ne e] at ho
   exact h.alb k r D' hk ho
 · obtain ⟨N,hp⟩:=hp
   have e:j≠i:=fun e=>by rw [e,updO_eq] at hp; cases hp
   rw [updO_ne e] at hp
   exact h.ord k j hk hj hlt hm (upd_dead hx (fun e=>by cases e) hd) ⟨N,hp⟩
def trEnd (β:Env):World→List Tr→World
 | w,[]=>w
 | w,.st i o l::r=>trEnd β (w.setCell ⟨(β i).b,o,none⟩ (l.den β)) r
 | w,.nw n cs t::r=>trEnd β (w.alloc (.cells (cs.map (Lf.den β)).toArray t (0,0))) r
 | w,.ld _ _ _::r=>trEnd β w r
 | w,.sh _ _ _::r=>trEnd β w r
 | w,.fz _ _::r=>trEnd β w r
 | w,.go::r=>trEnd β w r
def trOk (β:Env):World→List Tr→Prop
 | _,[]=>True
 | w,.ld i o l::r=>w.cell? ⟨(β i).b,o,none⟩=some (l.den β)∧trOk β w r
 | w,.st i o l::r=>((∃ v,w.cell? ⟨(β i).b,o,none⟩=some v)∧w.frozen? ⟨(β i).b,o,none⟩=false∧isScalar (l.den β)=true)∧trOk β (w.setCell ⟨(β i).b,o,none⟩ (l.den β)) r
 | w,.nw n cs t::r=>(β n).b=w.heap.size∧trOk β (w.alloc (.cells (cs.map (Lf.den β)).toArray t (0,0))) r
 | w,.sh i t m::r=>w.shape? (β i).b=some (t,m)∧trOk β w r
 | w,.fz i o::r=>w.frozen? ⟨(β i).b,o,none⟩=false∧trOk β w r
 | w,.go::r=>trOk β w r
theorem Eqs.no_ok (h:Eqs.ok Eqs.no):False:=by
 have:=h (.n 0,.n 1) (by simp [Eqs.no])
 simp at this
theorem Eqs.cons_ok {a b:Tm} {l:Eqs} (h:Eqs.ok ((a,b)::l)):a=b∧Eqs.ok l:=⟨h (a,b) (by simp),fun p hp=>h p (by simp [hp])⟩
theorem chk_run {α:Type} {P:Program} {β:Env} {f:α→Eqs}:∀ (s:Sem α) (tr:List Tr) (w:World),Eqs.ok (chk P β s tr f)→trOk β w tr→∃ a,s.run P w=.ok a (trEnd β w tr)∧Eqs.ok (f a):=by
 intro s
 induction s with
 | pure a =>
  intro tr w h _
  cases tr with
  | nil=>exact ⟨a,rfl,h⟩
  | cons x r=>exact (Eqs.no_ok h).elim
 | load m a k ih =>
  intro tr w h hk
  cases tr with
  | nil=>exact (Eqs.no_ok h).elim
  | cons x r =>
   cases x<;>first | exact (Eqs.no_ok h).elim | skip
   rename_i i o l
   obtain ⟨h1,h2⟩:=Eqs.cons_ok h
   injection h1 with h1; injection h1 with h1; injection h1 with h1
   obtain ⟨k1,k2⟩:=hk
   subst h1
   obtain ⟨b,hb,hf⟩:=ih _ r w h2 k2
   exact ⟨b,by simp only [Sem.run,k1,trEnd]; exact hb,hf⟩
 | store m a v k ih =>
  intro tr w h hk
  cases tr with
  | nil=>exact (Eqs.no_ok h).elim
  | cons x r =>
   cases x<;>first | exact (Eqs.no_ok h).elim | skip
   rename_i i o l
   obtain ⟨h1,h2⟩:=Eqs.cons_ok h
   obtain ⟨h3,h4⟩:=Eqs.cons_ok h2
   injection h1 with h1; injection h1 with h1; injection h1 with h1
   injection h3 with h3
   obtain ⟨⟨⟨u,k1⟩,k2,k3⟩,k4⟩:=hk
   subst h1
   obtain ⟨b,hb,hf⟩:=ih r _ h4 k4
   refine ⟨b,?_,hf⟩
   rw [← h3] at k3 hb
   simp only [trEnd]
   rw [← h3]
   cases v<;>first | (simp [isScalar] at k3; done) | (simp only [Sem.run,k1,k2]; exact hb)
 | new x k ih =>
  intro tr w h hk
  cases tr with
  | nil=>exact (Eqs.no_ok h).elim
  | cons y r =>
   cases y<;>first | exact (Eqs.no_ok h).elim | skip
   rename_i n cs t
   obtain ⟨h1,h2⟩:=Eqs.cons_ok h
   injection h1 with h1
   obtain ⟨k1,k2⟩:=hk
   obtain ⟨b,hb,hf⟩:=ih _ r _ h2 k2
   refine ⟨b,?_,hf⟩
   subst h1
   simp only [Sem.run,trEnd]
   rw [← k1]
   exact hb
 | shape b k ih =>
  intro tr w h hk
  cases tr with
  | nil=>exact (Eqs.no_ok h).elim
  | cons x r =>
   cases x<;>first | exact (Eqs.no_ok h).elim | skip
   rename_i i t m
   obtain ⟨h1,h2⟩:=Eqs.cons_ok h
   injection h1 with h1
   obtain ⟨k1,k2⟩:=hk
   subst h1
   obtain ⟨b,hb,hf⟩:=ih _ r w h2 k2
   exact ⟨b,by simp only [Sem.run,k1,trEnd]; exact hb,hf⟩
 | freeze a n k ih=>intro tr w h _; cases tr with
  | nil=>exact (Eqs.no_ok h).elim
  | cons x r=>cases x<;>exact (Eqs.no_ok h).elim
 | frozen a k ih =>
  intro tr w h hk
  cases tr with
  | nil=>exact (Eqs.no_ok h).elim
  | cons x r =>
   cases x<;>first | exact (Eqs.no_ok h).elim | skip
   rename_i i o
   obtain ⟨h1,h2⟩:=Eqs.cons_ok h
   injection h1 with h1; injection h1 with h1; injection h1 with h1
   obtain ⟨k1,k2⟩:=hk
   subst h1
   obtain ⟨b,hb,hf⟩:=ih _ r w h2 k2
   exact ⟨b,by simp only [Sem.run,k1,trEnd]; exact hb,hf⟩
 | getObj r k ih=>intro tr w h _; cases tr with
  | nil=>exact (Eqs.no_ok h).elim
  | cons x r=>cases x<;>exact (Eqs.no_ok h).elim
 | setObj r o k ih=>intro tr w h _; cases tr with
  | nil=>exact (Eqs.no_ok h).elim
  | cons x r=>cases x<;>exact (Eqs.no_ok h).elim
 | choose r k ih=>intro tr w h _; cases tr with
  | nil=>exact (Eqs.no_ok h).elim
  | cons x r=>cases x<;>exact (Eqs.no_ok h).elim
 | sys r k ih=>intro tr w h _; cases tr with
  | nil=>exact (Eqs.no_ok h).elim
  | cons x r=>cases x<;>exact (Eqs.no_ok h).elim
 | program k ih =>
  intro tr w h hk
  cases tr with
  | nil=>exact (Eqs.no_ok h).elim
  | cons x r =>
   cases x<;>first | exact (Eqs.no_ok h).elim | skip
   obtain ⟨b,hb,hf⟩:=ih _ r w h hk
   exact ⟨b,hb,hf⟩
 | mark m k ih =>
  intro tr w h hk
  cases tr with
  | nil=>exact (Eqs.no_ok h).elim
  | cons x r =>
   cases x<;>first | exact (Eqs.no_ok h).elim | skip
   obtain ⟨b,hb,hf⟩:=ih r w h hk
   exact ⟨b,hb,hf⟩
 | halt h=>intro tr w h _; cases tr with
  | nil=>exact (Eqs.no_ok h).elim
  | cons x r=>cases x<;>exact (Eqs.no_ok h).elim
end
section
open Go Go.RowKit
def Run1Ok {α:Type} (m0:Nat) (st:Bool) (q:Nat→Bool) (ob:List Ob) (tr0:List Tr) (r:R1 α):Prop :=
 ob.length≤r.ob.length∧(∀ k,r.q k=true↔q k=true∨(ob.length≤k∧k<r.ob.length))∧(st=false→∃ l,r.ob=ob++l) ∧
 ∃ tr,r.tr=tr.reverse++tr0∧∀ (B0:Bd) (w0:World) (ex:Nat→Bool) (obj:Nat→Option Ob) (β:Env) (w:World),Good B0 m0 w0 ex obj β w→(∀ k,q k=true→ex k=true∧obj k=ob[k]?) →
  (∀ k,ob.length≤k→k<r.ob.length→ex k=false∧(β k).one∧(β k).b=w.heap.size+(k-ob.length))→m0≤ob.length →
  trOk β w tr∧∃ obj',(∀ k,r.q k=true→obj' k=r.ob[k]?)∧(∀ k,r.q k=false→obj' k=obj k)∧Good B0 m0 w0 (rangeQ ex ob.length r.ob.length) obj' β (trEnd β w tr)
theorem rangeQ_iff {q:Nat→Bool} {n m k:Nat}:rangeQ q n m k=true↔q k=true∨(n≤k∧k<m):=by
 unfold rangeQ
 rw [Bool.or_eq_true,Bool.and_eq_true,Nat.ble_eq,Nat.blt_eq]
theorem rangeQ_self (q:Nat→Bool) (n:Nat):rangeQ q n n=q:=by
 funext k
 rw [Bool.eq_iff_iff,rangeQ_iff]
 constructor
 · rintro (h | h)
   · exact h
   · omega
 · exact .inl
theorem ownQ_eq {q:Nat→Bool} {b i:Nat} (h:ownQ q b=some i):i=b∧q b=true:=by
 unfold ownQ at h
 rw [lit_eq] at h
 cases hq:q b with
 | true=>rw [hq] at h; exact ⟨(Option.some.inj h).symm,rfl⟩
 | false=>rw [hq] at h; cases h
theorem cell_lay {w:World} {g o:Nat} {cur:Array Value} {t:TypeId} {u:Value} (h:w.heap[g]?=some (.cells cur t (0,0))) (hl:cur[o]?=some u):w.cell? ⟨g,o,none⟩=some u:=by
 simp [World.cell?,h,hl]
theorem frozen_box {w:World} {g o:Nat} {cs:Array Value} {t:TypeId} (h:w.heap[g]?=some (.cells cs t (0,0))):w.frozen? ⟨g,o,none⟩=false:=by
 simp [World.frozen?,h]
theorem Good.box {B0:Bd} {m0 i:Nat} {w0:World} {ex:Nat→Bool} {obj:Nat→Option Ob} {β:Env} {w:World} (h:Good B0 m0 w0 ex obj β w) (hi:ex i=true) {cs:List Lf} {t:TypeId} (hx:obj i=some (.box cs t)):w.heap[(β i).b]?=some (.cells (cs.map (Lf.den β)).toArray t (0,0)):=(h.hold i _ hi hx).1.2
theorem Good.lay {B0:Bd} {m0 i:Nat} {w0:World} {ex:Nat→Bool} {obj:Nat→Option Ob} {β:Env} {w:World} (h:Good B0 m0 w0 ex obj β w) (hi:ex i=true) {x:Ob} {cs:List Lf} {t:TypeId} (hx:obj i=some x) (hno:x.isOw=false) (hl:x.layOf=some (cs,t)):∃ cur,w.heap[(β i).b]?=some (.cells cur t (0,0))∧cs.length≤cur.size∧∀ (o:Nat) (l:Lf),cs[o]?=some l→cur[o]?=some (l.den β):=lay_cells hl hno (h.hold i _ hi hx).1
theorem alloc_heap (w:World) (o:Obj):(w.alloc o).heap=w.heap.push o:=rfl
theorem scalar_den {β:Env}:∀ {l:Lf},l.scalar=true→isScalar (l.den β)=true
 | .b (.v x),h=>h
 | .b (.p _ _),_=>rfl
 | .b (.s _ _ _ _),_=>rfl
 | .b (.z _ _),_=>rfl
 | .b (.y _ _ _),_=>rfl
 | .b (.r _ _),_=>rfl
 | .f _ _ _,_=>rfl
theorem Run1Ok.skip {α:Type} {m0:Nat} {st:Bool} {q:Nat→Bool} {ob:List Ob} {tr0:List Tr} {r:R1 α} (x:Tr) (h:Run1Ok m0 st q ob (x::tr0) r)
  (hx:∀ (B0:Bd) (w0:World) (ex:Nat→Bool) (obj:Nat→Option Ob) (β:Env) (w:World),Good B0 m0 w0 ex obj β w→(∀ k,q k=true→ex k=true∧obj k=ob[k]?)→∀ tr,trOk β w tr→trOk β w (x::tr)∧trEnd β w (x::tr)=trEnd β w tr):Run1Ok m0 st q ob tr0 r:=by
 obtain ⟨h1,h2,h3,tr,h4,h5⟩:=h
 refine ⟨h1,h2,h3,x::tr,by rw [h4]; simp,fun B0 w0 ex obj β w g hq hn hm=>?_⟩
 obtain ⟨k1,k2⟩:=h5 B0 w0 ex obj β w g hq hn hm
 obtain ⟨k3,k4⟩:=hx B0 w0 ex obj β w g hq tr k1
 rw [k4]
 exact ⟨k3,k2⟩
theorem run1_ok {α:Type} {P:Program} {m0:Nat} {st:Bool}:∀ (s:Sem α) (q:Nat→Bool) (ob:List Ob) (tr0:List Tr) (r:R1 α),run1 P m0 st s q ob tr0=some r→(∀ k,q k=true→k<ob.length)→Run1Ok m0 st q ob tr0 r:=by
 intro s
 induction s with
 | pure a =>
  intro q ob tr0 r h hq
  simp only [run1] at h
  obtain rfl:=Option.some.inj h
  refine ⟨Nat.le_refl _,fun k=>⟨.inl,fun h=>h.elim id (fun h=>by have:=h.1; have:=h.2; simp only at this; omega)⟩,fun _=>⟨[],by simp⟩,[],by simp,fun B0 w0 ex obj β w g hx hn hm=>?_⟩
  exact ⟨trivial,obj,fun k hk=>(hx k hk).2,fun _ _=>rfl,by rw [rangeQ_self]; exact g⟩
 | load m a k ih =>
  intro q ob tr0 r h hq
  obtain ⟨b,o,sp⟩:=a
  cases sp with
  | some n=>simp only [run1] at h; cases h
  | none =>
   simp only [run1] at h
   split at h
   · rename_i i hi
     obtain ⟨rfl,hqb⟩:=ownQ_eq hi
     split at h
     · rename_i cs t hob
       rw [lit_eq] at h
       split at h
       · rename_i l hl
         refine Run1Ok.skip (.ld i o l) (ih _ q ob _ r h hq) fun B0 w0 ex obj β w g hx tr htr=>⟨⟨?_,htr⟩,rfl⟩
         obtain ⟨h1,h2⟩:=hx i hqb
         obtain ⟨x,e1,e2,_⟩:=layAt_eq hob
         obtain ⟨cur,c1,_,c3⟩:=g.lay h1 (by rw [h2]; exact e1) (layAt_now hob _ e1) e2
         exact cell_lay c1 (c3 _ _ hl)
       · cases h
     · cases h
   · cases h
 | store m a v k ih =>
  intro q ob tr0 r h hq
  obtain ⟨b,o,sp⟩:=a
  cases sp with
  | some n=>simp only [run1] at h; cases h
  | none =>
   simp only [run1] at h
   split at h
   · rename_i i hi
     obtain ⟨rfl,hqb⟩:=ownQ_eq hi
     split at h
     · rename_i cs t hob
       rw [lit_eq] at h
       rw [cond_eq_ite] at h
       split at h
       · rename_i hc
         simp only [Bool.and_eq_true,Nat.ble_eq,Nat.blt_eq,Bool.not_eq_true',beq_eq_false_iff_ne] at hc
         obtain ⟨⟨⟨⟨⟨hst,hmi⟩,hof⟩,hsc⟩,hlt⟩,ht⟩:=hc
         have ht:t≠278:=fun e=>by rw [e] at ht; exact absurd ht (by decide)
         obtain ⟨y,hy1,hy2,hy3⟩:=layAt_eq hob
         rw [hy3] at h
         obtain ⟨h1,h2,h3,tr,h4,h5⟩:=ih q _ _ r h (fun k hk=>by rw [List.length_set]; exact hq k hk)
         rw [List.length_set] at h1 h5
         refine ⟨h1,?_,fun e=>(by rw [hst] at e; cases e),.st i o (tag1 v)::tr,by rw [h4]; simp,fun B0 w0 ex obj β w g hx hn hm=>?_⟩
         · intro k; rw [h2 k,List.length_set]
         obtain ⟨g1,g2⟩:=hx i hqb
         obtain ⟨cur,hb,hb2,hb3⟩:=g.lay g1 (by rw [g2]; exact hy1) (layAt_now hob _ hy1) hy2
         have gp:=g.put (o:=o) g1 (by rw [g2]; exact hy1) hy2 hmi ht (tag1 v) (Lf.of_mono (fun k hk=>(hx k hk).1) _ hof) hlt
         obtain ⟨k1,obj',k2,k3,k4⟩:=h5 B0 w0 ex _ β _ gp (fun k hk=>⟨(hx k hk).1,by
          unfold updO
          rw [List.getElem?_set]
          by_cases e:k=i
          · rw [if_pos e,if_pos e.symm]; rw [if_pos (by rw [e] at hk; exact hq i hk)]
          · rw [if_neg e,if_neg (Ne.symm e)]; exact (hx k hk).2⟩) (fun k a b=>by rw [size_set]; exact hn k a b) hm
         refine ⟨⟨⟨?_,frozen_box hb,scalar_den hsc⟩,k1⟩,obj',k2,?_,k4⟩
         · exact ⟨_,cell_lay hb (hb3 o (cs[o]'hlt) (by simp))⟩
         · intro k hk
           rw [k3 k hk]
           unfold updO
           rw [if_neg]
           rintro rfl
           have:r.q k=true:=(h2 k).2 (.inl hqb)
           rw [hk] at this
           cases this
       · cases h
     · cases h
   · cases h
 | new x k ih =>
  intro q ob tr0 r h hq
  cases x<;>simp only [run1] at h<;>first | (cases h; done) | skip
  rename_i cs t fr
  rw [cond_eq_ite] at h
  split at h
  · rename_i hof
    rw [lit_eq] at h
    have hadd:∀ j,addQ q ob.length j=true↔q j=true∨j=ob.length:=fun j=>by simp [addQ]
    obtain ⟨h1,h2,h3,tr,h4,h5⟩:=ih _ _ _ _ r h (fun j hj=>by
     rw [List.length_append]; simp only [List.length_cons,List.length_nil]
     rcases (hadd j).1 hj with a | a
     · have:=hq j a; omega
     · omega)
    rw [List.length_append] at h1 h5
    simp only [List.length_cons,List.length_nil] at h1 h5
    refine ⟨by omega,?_,fun e=>?_,.nw ob.length (cs.toList.map tag1) t::tr,by rw [h4]; simp,fun B0 w0 ex obj β w g hx hn hm=>?_⟩
    · intro j
      rw [h2 j,List.length_append,hadd j]
      simp only [List.length_cons,List.length_nil]
      constructor
      · rintro ((a | a) | a)
        · exact .inl a
        · exact .inr ⟨by omega,by omega⟩
        · exact .inr ⟨by omega,a.2⟩
      · rintro (a | a)
        · exact .inl (.inl a)
        · by_cases e:j=ob.length
          · exact .inl (.inr e)
          · exact .inr ⟨by omega,a.2⟩
    · obtain ⟨l,hl⟩:=h3 e
      exact ⟨_,by rw [hl,List.append_assoc]⟩
    · obtain ⟨n1,n2⟩:=hn ob.length (Nat.le_refl _) (by omega)
      rw [Nat.sub_self,Nat.add_zero] at n2
      obtain ⟨n0,n2⟩:=n2
      have hbel:Below w.heap.size w (w.alloc (.cells ((cs.toList.map tag1).map (Lf.den β)).toArray t (0,0))):=(Below.refl _ _).alloc (Nat.le_refl _) _
      have gp:=g.push (n:=ob.length) hbel n1 n0 (by rw [n2]; exact Nat.le_refl _) (by rw [n2,alloc_heap,Array.size_push]; exact Nat.lt_succ_self _) (x:=.box (cs.toList.map tag1) t) (by simp only [Ob.holds]; refine ⟨n0,?_⟩; rw [n2,alloc_heap]; simp) (by simp only [Ob.of]; exact all_mono hof (Lf.of_mono fun j hj=>(hx j hj).1)) rfl
      obtain ⟨k1,obj',k2,k3,k4⟩:=h5 B0 w0 _ _ β _ gp (fun j hj=>by
       rcases (hadd j).1 hj with a | a
       · have hj2:=hq j a
         refine ⟨by simp [addQ,(hx j a).1],?_⟩
         unfold updO
         rw [if_neg (by omega),List.getElem?_append_left hj2]
         exact (hx j a).2
       · subst a
         refine ⟨by simp [addQ],?_⟩
         unfold updO
         rw [if_pos rfl]
         simp) (fun j a b=>by
       obtain ⟨m1,m0',m2⟩:=hn j (by omega) b
       refine ⟨?_,m0',?_⟩
       · unfold addQ
         rw [m1,Bool.false_or]
         exact Bool.eq_false_iff.2 (fun e=>by have:=Nat.eq_of_beq_eq_true e; omega)
       · rw [m2,alloc_heap,Array.size_push]; omega) (by omega)
      refine ⟨⟨n2,k1⟩,obj',k2,?_,?_⟩
      · intro j hj
        rw [k3 j hj]
        unfold updO
        rw [if_neg]
        rintro rfl
        have:r.q ob.length=true:=(h2 _).2 (.inl ((hadd _).2 (.inr rfl)))
        rw [hj] at this
        cases this
      · refine k4.view (fun j=>?_) (fun _ _=>rfl)
        rw [Bool.eq_iff_iff,rangeQ_iff,rangeQ_iff]
        simp only [addQ,Bool.or_eq_true,Nat.beq_eq]
        constructor
        · rintro (a | a)
          · exact .inl (.inl a)
          · by_cases e:j=ob.length
            · exact .inl (.inr e)
            · exact .inr ⟨by omega,a.2⟩
        · rintro ((a | a) | a)
          · exact .inl a
          · exact .inr ⟨by omega,by omega⟩
          · exact .inr ⟨by omega,a.2⟩
  · cases h
 | shape b k ih =>
  intro q ob tr0 r h hq
  simp only [run1] at h
  split at h
  · rename_i i hi
    obtain ⟨rfl,hqb⟩:=ownQ_eq hi
    split at h
    · rename_i cs t hob
      refine Run1Ok.skip (.sh i t cs.length) (ih _ q ob _ r h hq) fun B0 w0 ex obj β w g hx tr htr=>⟨⟨?_,htr⟩,rfl⟩
      obtain ⟨h1,h2⟩:=hx i hqb
      have:=g.box h1 (by rw [h2]; exact hob)
      simp [World.shape?,this]
    · cases h
  · cases h
 | freeze a n k ih=>intro q ob tr0 r h hq; simp only [run1] at h; cases h
 | frozen a k ih =>
  intro q ob tr0 r h hq
  obtain ⟨b,o,sp⟩:=a
  cases sp with
  | some n=>simp only [run1] at h; cases h
  | none =>
   simp only [run1] at h
   split at h
   · rename_i i hi
     obtain ⟨rfl,hqb⟩:=ownQ_eq hi
     split at h
     · rename_i p hob
       refine Run1Ok.skip (.fz i o) (ih _ q ob _ r h hq) fun B0 w0 ex obj β w g hx tr htr=>⟨⟨?_,htr⟩,rfl⟩
       obtain ⟨h1,h2⟩:=hx i hqb
       obtain ⟨x,e1,e2,_⟩:=layAt_eq hob
       obtain ⟨cur,c1,_⟩:=g.lay h1 (by rw [h2]; exact e1) (cs:=p.1) (t:=p.2) (layAt_now hob _ e1) e2
       exact frozen_box c1
     · cases h
   · cases h
 | getObj r k ih=>intro q ob tr0 r h hq; simp only [run1] at h; cases h
 | setObj r o k ih=>intro q ob tr0 r h hq; simp only [run1] at h; cases h
 | choose c k ih=>intro q ob tr0 r h hq; simp only [run1] at h; cases h
 | sys c k ih=>intro q ob tr0 r h hq; simp only [run1] at h; cases h
 | program k ih =>
  intro q ob tr0 r h hq
  simp only [run1] at h
  exact Run1Ok.skip .go (ih _ q ob _ r h hq) fun _ _ _ _ _ _ _ _ tr htr=>⟨htr,rfl⟩
 | mark m k ih =>
  intro q ob tr0 r h hq
  simp only [run1] at h
  exact Run1Ok.skip .go (ih q ob _ r h hq) fun _ _ _ _ _ _ _ _ tr htr=>⟨htr,rfl⟩
 | halt x=>intro q ob tr0 r h hq; simp only [run1] at h; cases h
def slotOf (q:Nat→Bool) (sl:List (Nat × SV)):Operand→Prop
 | .tmp t=>(look sl t).of q=true
 | _=>True
theorem evS_congr {q:Nat→Bool} {β β':Env} {sl:List (Nat × SV)} (hq:∀ k,q k=true→β k=β' k):∀ y:Operand,slotOf q sl y→evS β sl y=evS β' sl y
 | .tmp t,h=>SV.den_congr hq _ h
 | .const _,_=>rfl
 | .global _,_=>rfl
 | .func _,_=>rfl
theorem noSelect_of {op:Op} (h:noSelectB op=true):∀ cs b,op≠.select cs b:=by
 rintro cs b rfl
 cases h
theorem newHold_get {w:World}:∀ {l:List Thing} {xs:List Pl},newHold w l xs→xs.length=l.length∧∀ (i:Nat) (t:Thing),l[i]?=some t→∃ x,xs[i]?=some x∧t.D w x
 | [],[],_=>⟨rfl,fun i t h=>by simp at h⟩
 | t::ts,x::xs,h=>by
  obtain ⟨h1,h2⟩:=newHold_get h.2
  refine ⟨by simp [h1],fun i u hu=>?_⟩
  cases i with
  | zero=>simp at hu; subst hu; exact ⟨x,rfl,h.1⟩
  | succ i=>simpa using h2 i u (by simpa using hu)
theorem extE_in {β:Env} {n i:Nat} {xs:List Pl} {x:Pl} (h:xs[i]?=some x):extE β n xs (n+i)=x:=by
 have h1:Nat.ble n (n+i)=true:=by rw [Nat.ble_eq]; omega
 simp [extE,h1,h]
theorem extE_out {β:Env} {n k:Nat} {xs:List Pl} (h:¬(n≤k∧k<n+xs.length)):extE β n xs k=β k:=by
 unfold extE
 cases hb:Nat.ble n k with
 | false=>rfl
 | true =>
  rw [Nat.ble_eq] at hb
  rw [List.getElem?_eq_none (by omega)]
  rfl
theorem Good.news2 {B0:Bd} {m0 n:Nat} {fr:Nat→Prop} {w0:World} {ex:Nat→Bool} {obj:Nat→Option Ob} {β:Env} {w':World} (h:Good B0 m0 w0 ex obj β w') (hs:∀ k,ex k=true→∀ c,(β k).F c→¬ fr c) (hsB:∀ c,fr c→B0.has c) {l:List Thing} {xs:List Pl} (hl:newHold w' l xs) (hm0:m0≤n)
  (hf:∀ x∈xs,∀ c,x.F c→fr c∨∃ i o,i<n∧ex i=true∧obj i=some o∧(o.isTh=true∨(i<m0∧o≠.dead))∧(β i).F c)
  (hn:∀ k,n≤k→k<n+l.length→ex k=false):Good B0 m0 w0 (rangeQ ex n (n+l.length)) (fun k=>if n≤k∧k<n+l.length then (l[k-n]?).map Thing.ob else obj k) (extE β n xs) w':=by
 obtain ⟨hlen,hget⟩:=newHold_get hl
 have hin:∀ k,n≤k→k<n+l.length→∃ t x,l[k-n]?=some t∧xs[k-n]?=some x∧t.D w' x∧extE β n xs k=x∧∀ c,x.F c→fr c∨∃ i o,i<n∧ex i=true∧obj i=some o∧(o.isTh=true∨(i<m0∧o≠.dead))∧(β i).F c:=by
  intro k h1 h2
  have h3:k-n<l.length:=by omega
  obtain ⟨x,hx,hD⟩:=hget (k-n) _ (List.getElem?_eq_getElem h3)
  refine ⟨_,x,List.getElem?_eq_getElem h3,hx,hD,?_,hf x (List.mem_of_getElem? hx)⟩
  have:=extE_in (β:=β) (n:=n) hx
  rwa [show n+(k-n)=k by omega] at this
 have hold:∀ k,ex k=true→¬(n≤k∧k<n+l.length):=fun k hk h1=>by rw [hn k h1.1 h1.2] at hk; cases hk
 have hout:∀ k,ex k=true→β k=extE β n xs k:=fun k hk=>(extE_out (by rw [hlen]; exact hold k hk)).symm
 have h':=h.congr hout
 have hmono:∀ k,ex k=true→rangeQ ex n (n+l.length) k=true:=fun k hk=>rangeQ_iff.2 (.inl hk)
 have hfr:∀ k,rangeQ ex n (n+l.length) k=true→Free (rangeQ ex n (n+l.length)) (fun k=>if n≤k∧k<n+l.length then (l[k-n]?).map Thing.ob else obj k) k→ex k=true∧Free ex obj k:=by
  intro k hk hfk
  unfold Free at hfk
  dsimp only at hfk
  rcases rangeQ_iff.1 hk with hk1 | hk1
  · refine ⟨hk1,?_⟩
    rw [if_neg (hold k hk1)] at hfk
    refine hfk.imp id fun ⟨a,f⟩=>⟨a,fun j D hj hx=>f j D (hmono j hj) (by rw [if_neg (hold j hj)]; exact hx)⟩
  · exfalso
    rw [if_pos hk1] at hfk
    obtain ⟨t,x,h1,h2,h3,h4,h5⟩:=hin k hk1.1 hk1.2
    rw [h1] at hfk
    rcases hfk with ⟨x,e,p,hl⟩ | ⟨⟨m,e⟩,_⟩
    · rw [← Option.some.inj e] at hl; cases hl
    · cases e
 refine ⟨h'.bel,h'.le,?_,?_,?_,?_,?_,fun i hi=>hmono i (h.ar i hi),?_,?_,?_⟩
 · intro k o hk hko
   rcases rangeQ_iff.1 hk with hk | hk
   · rw [if_neg (hold k hk)] at hko
     exact ⟨(h'.hold k o hk hko).1,Ob.of_mono hmono _ (h'.hold k o hk hko).2⟩
   · rw [if_pos hk] at hko
     obtain ⟨t,x,h1,h2,h3,h4,h5⟩:=hin k hk.1 hk.2
     rw [h1] at hko
     obtain rfl:=Option.some.inj hko
     exact ⟨by rw [h4]; exact h3,rfl⟩
 · intro k hk
   rcases rangeQ_iff.1 hk with hk | hk
   · exact h'.lt k hk
   · obtain ⟨t,x,h1,h2,h3,h4,h5⟩:=hin k hk.1 hk.2
     rw [h4]
     exact t.st.lt _ _ h3
 · intro k j hk hj hne hm hfk hd
   obtain ⟨hk1,hf1⟩:=hfr k hk hfk
   rcases rangeQ_iff.1 hj with hj | hj
   · exact h'.ne k j hk1 hj hne hm hf1 (by rwa [if_neg (hold j hj)] at hd)
   · obtain ⟨t,x,h1,h2,h3,h4,h5⟩:=hin j hj.1 hj.2
     rw [h4,← hout k hk1]
     intro hc
     rcases h5 _ hc with hc | ⟨i,o,i0,i1,i2,i3,i4⟩
     · exact hs k hk1 _ (h.bF hk1 hf1) hc
     · refine h.ne k i hk1 i1 ?_ hm hf1 (by rw [i2]; exact fun e=>i3.elim (fun i3=>by rw [Option.some.inj e] at i3; cases i3) fun i3=>i3.2 (Option.some.inj e)) i4
       rintro rfl
       replace i3:=i3.resolve_right (fun i3=>absurd i3.1 (Nat.not_lt.2 hm))
       rcases hf1 with ⟨x,e,p,hl⟩ | ⟨⟨m,e⟩,_⟩
       · rw [i2] at e; obtain rfl:=Option.some.inj e; cases o<;>first | (cases i3; done) | (cases hl; done)
       · rw [i2] at e; obtain rfl:=Option.some.inj e; cases i3
 · intro k y hk hm hy hfk
   rcases rangeQ_iff.1 hk with hk1 | hk1
   · rw [if_neg (hold k hk1)] at hy
     exact h'.lowm k y hk1 hm hy hfk
   · rw [if_pos hk1] at hy
     obtain ⟨t,x,h1,h2,h3,h4,h5⟩:=hin k hk1.1 hk1.2
     rw [h1] at hy
     rw [← Option.some.inj hy] at hfk
     cases hfk
 · intro k hk hm c hc
   rcases rangeQ_iff.1 hk with hk | hk
   · exact h'.fr k hk hm c hc
   · obtain ⟨t,x,h1,h2,h3,h4,h5⟩:=hin k hk.1 hk.2
     rw [h4] at hc
     rcases h5 _ hc with hc | ⟨i,o,i0,i1,i2,i3,i4⟩
     · exact .inl (.inl (hsB c hc))
     · by_cases hi:m0≤i
       · refine (h.fr i i1 hi c i4).imp id fun ⟨j,j1,j2⟩=>⟨j,j1,by rw [← hout j (h.ar j j1)]; exact j2⟩
       · exact .inr ⟨i,by omega,by rw [← hout i i1]; exact i4⟩
 · intro k r D hk hko
   rcases rangeQ_iff.1 hk with hk1 | hk1
   · rw [if_neg (hold k hk1)] at hko
     obtain ⟨a1,m,a2⟩:=h.al k r D hk1 hko
     exact ⟨hmono r a1,m,by rw [if_neg (hold r a1)]; exact a2⟩
   · rw [if_pos hk1] at hko
     obtain ⟨t,x,h1,h2,h3,h4,h5⟩:=hin k hk1.1 hk1.2
     rw [h1] at hko
     cases hko
 · intro k r D hk hko
   rcases rangeQ_iff.1 hk with hk1 | hk1
   · rw [if_neg (hold k hk1)] at hko
     exact h'.alb k r D hk1 hko
   · rw [if_pos hk1] at hko
     obtain ⟨t,x,h1,h2,h3,h4,h5⟩:=hin k hk1.1 hk1.2
     rw [h1] at hko
     cases hko
 · intro k j hk hj hlt hm hd hp
   obtain ⟨M,hp⟩:=hp
   rcases rangeQ_iff.1 hj with hj1 | hj1
   · rw [if_neg (hold j hj1)] at hp
     rcases rangeQ_iff.1 hk with hk1 | hk1
     · rw [if_neg (hold k hk1)] at hd
       exact h'.ord k j hk1 hj1 hlt hm hd ⟨M,hp⟩
     · obtain ⟨t,x,h1,h2,h3,h4,h5⟩:=hin k hk1.1 hk1.2
       rw [h4,← hout j hj1]
       intro hc
       rcases h5 _ hc with hc | ⟨i,o,i0,i1,i2,i3,i4⟩
       · exact hs j hj1 _ (((h.hold j _ hj1 hp).1.1.1 _).2 rfl) hc
       · exact h.ord i j i1 hj1 (by omega) hm (by rw [i2]; exact fun e=>i3.elim (fun i3=>by rw [Option.some.inj e] at i3; cases i3) fun i3=>i3.2 (Option.some.inj e)) ⟨M,hp⟩ i4
   · rw [if_pos hj1] at hp
     obtain ⟨t,x,h1,h2,h3,h4,h5⟩:=hin j hj1.1 hj1.2
     rw [h1] at hp
     cases hp
theorem Good.news {B0:Bd} {m0 n:Nat} {w0:World} {ex:Nat→Bool} {obj:Nat→Option Ob} {β:Env} {w w':World} (h:Good B0 m0 w0 ex obj β w) (hb:Below w.heap.size w w') {l:List Thing} {xs:List Pl} (hl:newHold w' l xs) (hm0:m0≤n)
  (hf:∀ x∈xs,∀ c,x.F c→w.heap.size≤c∨∃ i o,i<n∧ex i=true∧obj i=some o∧o.isTh=true∧(β i).F c)
  (hn:∀ k,n≤k→k<n+l.length→ex k=false):Good B0 m0 w0 (rangeQ ex n (n+l.length)) (fun k=>if n≤k∧k<n+l.length then (l[k-n]?).map Thing.ob else obj k) (extE β n xs) w' :=
 (h.on hb).news2 (fr:=fun c=>w.heap.size≤c) (fun k hk c hc=>Nat.not_le.2 (h.lt k hk c hc)) (fun c hc=>.inl (Nat.le_trans h.le hc)) hl hm0 (fun x hx c hc=>(hf x hx c hc).imp id fun ⟨i,o,i0,i1,i2,i3,i4⟩=>⟨i,o,i0,i1,i2,.inl i3,i4⟩) hn
theorem stable_touchL {D:World→Pl→Prop} (hD:Stable D) {w:World} {g:Pl}:∀ {L:List Nat} {w':World},TouchL w w' L→(∀ b∈L,∃ cs cs' t,w.heap[b]?=some (.cells cs t (0,0))∧w'.heap[b]?=some (.cells cs' t (0,0))∧cs'.size=cs.size∧t≠278∧¬ g.F b)→D w g→D w' g
 | [],w',h,_,hd=>hD.below w w' g hd ⟨h.os,h.tape,h.output,h.size,fun k hk=>h.block k hk (by simp)⟩
 | b::L,w',h,hL,hd=>by
  obtain ⟨cs,cs',t,h1,h2,h3,h4,h5⟩:=hL b (List.mem_cons_self ..)
  have hb:b<w'.heap.size:=heap_lt h2
  obtain ⟨w1,hw1⟩:∃ w1:World,w1={ w' with heap:=w'.heap.setIfInBounds b (.cells cs t (0,0)) }:=⟨_,rfl⟩
  have hin:w1.heap[b]?=some (.cells cs t (0,0)):=by rw [hw1]; simp [Array.getElem?_setIfInBounds,hb]
  have hout:∀ k,k≠b→w1.heap[k]?=w'.heap[k]?:=fun k hk=>by rw [hw1]; simp [Array.getElem?_setIfInBounds,hk.symm]
  have hsz:w1.heap.size=w'.heap.size:=by rw [hw1]; simp
  have T1:TouchL w w1 L:=⟨by rw [hw1]; exact h.os,by rw [hw1]; exact h.tape,by rw [hw1]; exact h.output,by rw [hsz]; exact h.size,fun k hk hn=>by
   by_cases e:k=b
   · rw [e,hin,h1]
   · rw [hout k e]
     exact h.block k hk (by simp [e,hn])⟩
  have D1:=stable_touchL hD (L:=L) T1 (fun c hc=>by
   obtain ⟨ds,ds',u,k1,k2,k3,k4,k5⟩:=hL c (List.mem_cons_of_mem _ hc)
   by_cases e:c=b
   · subst e
     exact ⟨cs,cs,t,h1,hin,rfl,h4,h5⟩
   · exact ⟨ds,ds',u,k1,by rw [hout c e]; exact k2,k3,k4,k5⟩) hd
  refine hD.touch w1 w' g b 0 cs.size cs.size D1 (Slot.nw (o:=0) (n:=cs.size) ⟨cs,t,hin,h4,by omega⟩) ⟨by rw [hw1],by rw [hw1],by rw [hw1],by omega,fun k hk hne=>(hout k hne).symm,fun cs0 t0 fr h0=>?_⟩ h5
  rw [hin] at h0
  obtain ⟨rfl,rfl,rfl⟩:=Obj.cells.inj (Option.some.inj h0)
  exact ⟨cs',h2,h3,fun i hi=>by rw [Array.getElem?_eq_none (by omega),Array.getElem?_eq_none (by omega)]⟩
theorem Good.swap {B0:Bd} {m0:Nat} {w0:World} {ex:Nat→Bool} {obj obj':Nat→Option Ob} {β:Env} {w w':World} (h:Good B0 m0 w0 ex obj β w) (hk:∀ k,obj' k=obj k∨∃ x p y p',obj k=some x∧x.layOf=some p∧obj' k=some y∧y.layOf=some p')
  (hb:Keep B0 w0 w') (hs:w.heap.size≤w'.heap.size) (hh:∀ k o,ex k=true→obj' k=some o→o.holds β w' (β k)∧o.of ex=true):Good B0 m0 w0 ex obj' β w':=by
 have hal:∀ k r D,obj' k=some (.al r D)→obj k=some (.al r D):=fun k r D e=>by
  rcases hk k with e1 | ⟨x,p,y,p',_,_,e2,e3⟩
  · rw [← e1]; exact e
  · rw [e2] at e; rw [Option.some.inj e] at e3; cases e3
 have hpl:∀ k n,obj' k=some (.pl n)→obj k=some (.pl n):=fun k n e=>by
  rcases hk k with e1 | ⟨x,p,y,p',_,_,e2,e3⟩
  · rw [← e1]; exact e
  · rw [e2] at e; rw [Option.some.inj e] at e3; cases e3
 have hal2:∀ k r D,obj k=some (.al r D)→obj' k=some (.al r D):=fun k r D e=>by
  rcases hk k with e1 | ⟨x,p,y,p',e1,e3,_,_⟩
  · rw [e1]; exact e
  · rw [e1] at e; rw [Option.some.inj e] at e3; cases e3
 have hpl2:∀ k n,obj k=some (.pl n)→obj' k=some (.pl n):=fun k n e=>by
  rcases hk k with e1 | ⟨x,p,y,p',e1,e3,_,_⟩
  · rw [e1]; exact e
  · rw [e1] at e; rw [Option.some.inj e] at e3; cases e3
 have hdead:∀ k,obj' k≠some .dead→obj k≠some .dead:=fun k hd e=>by
  rcases hk k with e1 | ⟨x,p,y,p',e1,e3,_,_⟩
  · exact hd (e1.trans e)
  · rw [e1] at e; rw [Option.some.inj e] at e3; cases e3
 have hfree:∀ k,Free ex obj' k→Free ex obj k:=fun k hf=>by
  rcases hf with ⟨x,e,p,hl⟩ | ⟨⟨n,e⟩,f⟩
  · rcases hk k with e1 | ⟨x,p,y,p',e1,e3,_,_⟩
    · exact .inl ⟨_,by rw [← e1]; exact e,p,hl⟩
    · exact .inl ⟨_,e1,_,e3⟩
  · exact .inr ⟨⟨n,hpl k n e⟩,fun j D hj e2=>f j D hj (hal2 j k D e2)⟩
 have hmine:∀ k x,obj' k=some x→x.mine=true→∃ y,obj k=some y∧y.mine=true:=fun k x e hm=>by
  rcases hk k with e1 | ⟨x,p,y,p',e1,e3,_,_⟩
  · exact ⟨_,by rw [← e1]; exact e,hm⟩
  · exact ⟨_,e1,lay_mine e3⟩
 exact ⟨hb,Nat.le_trans h.le hs,hh,fun k hk c hc=>Nat.lt_of_lt_of_le (h.lt k hk c hc) hs,fun k j hk hj hne hm hf hd=>h.ne k j hk hj hne hm (hfree k hf) (hdead j hd),
  fun k x hk hm hx hxm=>by obtain ⟨y,e,hy⟩:=hmine k x hx hxm; exact h.lowm k y hk hm e hy,h.fr,h.ar,fun k r D hk hx=>by
   obtain ⟨a,n,b⟩:=h.al k r D hk (hal k r D hx)
   exact ⟨a,n,hpl2 r n b⟩,fun k r D hk hx=>h.alb k r D hk (hal k r D hx),fun k i hk hi hlt hm hd ⟨N,hp⟩=>h.ord k i hk hi hlt hm (hdead k hd) ⟨N,hpl i N hp⟩⟩
def rawO (β:Env):Ob→Ob
 | .box cs t=>.box (cs.map fun l=>.b (.v (l.den β))) t
 | .row cs t n sz=>.row (cs.map fun l=>.b (.v (l.den β))) t n sz
 | x=>x
theorem rawO_map (β β':Env) (cs:List Lf):(cs.map fun l=>Lf.b (.v (l.den β'))).map (Lf.den β)=cs.map (Lf.den β'):=by rw [List.map_map]; rfl
theorem rawO_holds {β β':Env} {w:World} {g:Pl}:∀ {x:Ob} {p:List Lf × TypeId},x.layOf=some p→x.holds β' w g→(rawO β' x).holds β w g
 | .box cs t,_,_,h=>⟨h.1,by rw [rawO_map]; exact h.2⟩
 | .row cs t n sz,_,_,⟨h1,cur,h2,h3,h4,h5,h6,h7⟩=>⟨h1,cur,h2,by rw [List.length_map]; exact h3,h4,h5,h6,by rw [rawO_map]; exact h7⟩
 | .ow _ _,_,_,h=>h
theorem rawO_of {β':Env} {q:Nat→Bool}:∀ {x:Ob} {p:List Lf × TypeId},x.layOf=some p→(rawO β' x).of q=true
 | .box cs t,_,_=>List.all_eq_true.2 fun l hl=>by obtain ⟨l0,_,rfl⟩:=List.mem_map.1 hl; rfl
 | .row cs t n sz,_,_=>List.all_eq_true.2 fun l hl=>by obtain ⟨l0,_,rfl⟩:=List.mem_map.1 hl; rfl
 | .ow _ _,_,_=>rfl
theorem rawO_lay {β':Env}:∀ {x:Ob} {p:List Lf × TypeId},x.layOf=some p→∃ p',(rawO β' x).layOf=some p'
 | .box cs t,_,_=>⟨_,rfl⟩
 | .row cs t n sz,_,_=>⟨_,rfl⟩
 | .ow _ _,_,_=>⟨_,rfl⟩
theorem rawO_own {β':Env}:∀ {x:Ob} {p:List Lf × TypeId},x.layOf=some p→(rawO β' x).own=true
 | .box cs t,_,_=>rfl
 | .row cs t n sz,_,_=>rfl
 | .ow _ _,_,_=>rfl
theorem lay_self {β:Env} {w:World} {g:Pl}:∀ {x:Ob} {p:List Lf × TypeId},x.layOf=some p→x.holds β w g→g.F g.b
 | .box cs t,_,_,h=>(h.1.1 _).2 rfl
 | .row cs t n sz,_,_,h=>(h.1.1 _).2 rfl
 | .ow _ _,_,_,h=>h.1.1
def muK:Ob→Ob→Bool
 | .box cs t,.box cs' t'=>Nat.beq t t'&&(Nat.beq cs.length cs'.length&&!Nat.beq t 278)
 | .row cs t n sz,.row cs' t' n' sz'=>Nat.beq t t'&&(Nat.beq n n'&&(Nat.beq sz sz'&&!Nat.beq t 278))
 | _,_=>false
theorem muK_lay {a b:Ob} (h:muK a b=true):(∃ p,a.layOf=some p)∧∃ p,b.layOf=some p:=by
 cases a<;>cases b<;>first | (cases h; done) | exact ⟨⟨_,rfl⟩,_,rfl⟩
theorem muK_cells {a b:Ob} {β β':Env} {w w':World} {g:Pl} (h:muK a b=true) (ha:a.holds β w g) (hb:b.holds β' w' g):∃ cs cs' t,w.heap[g.b]?=some (.cells cs t (0,0))∧w'.heap[g.b]?=some (.cells cs' t (0,0))∧cs'.size=cs.size∧t≠278:=by
 have hne:∀ t:Nat,(!Nat.beq t 278)=true→t≠278:=fun t h e=>by
  rw [e,Nat.beq_refl] at h; cases h
 cases a with
 | box cs t=>cases b with
  | box cs' t' =>
   unfold muK at h
   simp only [Bool.and_eq_true,Nat.beq_eq] at h
   obtain ⟨rfl,hl,hu⟩:=h
   exact ⟨_,_,t,ha.2,hb.2,by simp [hl],hne t hu⟩
  | _=>cases h
 | row cs t n sz=>cases b with
  | row cs' t' n' sz' =>
   unfold muK at h
   simp only [Bool.and_eq_true,Nat.beq_eq] at h
   obtain ⟨rfl,rfl,rfl,hu⟩:=h
   obtain ⟨_,cur,h2,_,_,_,h6,_⟩:=ha
   obtain ⟨_,cur',k2,_,_,_,k6,_⟩:=hb
   exact ⟨cur,cur',t,h2,k2,by rw [h6,k6],hne t hu⟩
  | _=>cases h
 | _=>cases h
theorem needs_th {B0:Bd} {m0:Nat} {w0:World} {ex q:Nat→Bool} {obj:Nat→Option Ob} {β:Env} {w:World} {ob:List Ob} (g:Good B0 m0 w0 ex obj β w) (hq:∀ k,q k=true→ex k=true∧obj k=ob[k]?):∀ (l:List (Nat × Ob)),Eqs.ok (needEqs q ob l)→∀ p∈l,p.2.isTh=true→∃ o,q p.1=true∧ex p.1=true∧obj p.1=some o∧o.isTh=true
 | [],_=>fun p hp=>by cases hp
 | (k,x)::r,h=>by
  simp only [needEqs] at h
  split at h
  · rename_i h1 h2
    obtain ⟨h3,h4⟩:=Eqs.cons_ok h
    injection h3 with h3
    intro p hp ht
    rcases List.mem_cons.1 hp with rfl | hp
    · obtain ⟨h5,h6⟩:=hq k h1
      rename_i y
      exact ⟨y,h1,h5,by rw [h6]; exact h2,Ob.plain_th (x:=x) (by rw [h3]; exact ht)⟩
    · exact needs_th g hq r h4 p hp ht
  · exact (Eqs.no_ok h).elim
theorem needs_hold {B0:Bd} {m0:Nat} {w0:World} {ex q:Nat→Bool} {obj:Nat→Option Ob} {β:Env} {w:World} {ob:List Ob} (g:Good B0 m0 w0 ex obj β w) (hq:∀ k,q k=true→ex k=true∧obj k=ob[k]?):∀ (l:List (Nat × Ob)),Eqs.ok (needEqs q ob l)→holdsAll β w l
 | [],_=>fun p hp=>by cases hp
 | (k,x)::r,h=>by
  simp only [needEqs] at h
  split at h
  · rename_i h1 h2
    obtain ⟨h3,h4⟩:=Eqs.cons_ok h
    injection h3 with h3
    intro p hp
    rcases List.mem_cons.1 hp with rfl | hp
    · obtain ⟨h5,h6⟩:=hq k h1
      have h7:=Ob.plain_holds (x:=x) (g.hold k _ h5 (by rw [h6]; exact h2)).1
      rw [h3] at h7
      exact h7
    · exact needs_hold g hq r h4 p hp
  · exact (Eqs.no_ok h).elim
theorem needs_holdO {B0:Bd} {m0:Nat} {w0:World} {ex q:Nat→Bool} {obj:Nat→Option Ob} {β:Env} {w:World} {ob:List Ob} (g:Good B0 m0 w0 ex obj β w) (hq:∀ k,q k=true→ex k=true∧obj k=ob[k]?):∀ (l:List (Nat × Ob)),Eqs.ok (needEqsO q ob l)→holdsAll β w l
 | [],_=>fun p hp=>by cases hp
 | (k,x)::r,h=>by
  simp only [needEqsO] at h
  split at h
  · rename_i h1 h2
    obtain ⟨h3,h4⟩:=Eqs.cons_ok h
    injection h3 with h3
    intro p hp
    rcases List.mem_cons.1 hp with rfl | hp
    · obtain ⟨h5,h6⟩:=hq k h1
      have h7:=Ob.plainO_holds (x:=x) (g.hold k _ h5 (by rw [h6]; exact h2)).1
      rw [h3] at h7
      exact h7
    · exact needs_holdO g hq r h4 p hp
  · exact (Eqs.no_ok h).elim
theorem needs_holdN {n:Nat} {B0:Bd} {m0:Nat} {w0:World} {ex q:Nat→Bool} {obj:Nat→Option Ob} {β:Env} {w:World} {ob:List Ob} (g:Good B0 m0 w0 ex obj β w) (hq:∀ k,q k=true→ex k=true∧obj k=ob[k]?) (l:List (Nat × Ob)) (h:Eqs.ok (needEqsN n q ob l)):holdsAll β w l:=by
 unfold needEqsN at h
 cases hn:Nat.beq n 0 with
 | true=>rw [hn] at h; exact needs_holdO g hq l h
 | false=>rw [hn] at h; exact needs_hold g hq l h
theorem needs_N {n:Nat} {q:Nat→Bool} {ob:List Ob} {l:List (Nat × Ob)} (h:Eqs.ok (needEqsN n q ob l)) (hn:n≠0):Eqs.ok (needEqs q ob l):=by
 unfold needEqsN at h
 rw [show Nat.beq n 0=false by rw [Bool.eq_false_iff,ne_eq,Nat.beq_eq]; exact hn] at h
 exact h
def OpOk (P:Program) (m0:Nat) (st:Bool) (q:Nat→Bool) (sl:List (Nat × SV)) (o:Oper) (ob:List Ob) (x:SV) (q':Nat→Bool) (ob':List Ob) (c:Env→Eqs):Prop :=
 (ob.length≤ob'.length∧(∀ k,q' k=true↔q k=true∨(ob.length≤k∧k<ob'.length))∧(st=false→∃ l,ob'=ob++l)∧x.of q'=true) ∧
 ((∀ β,Eqs.ok (c β))→∀ (B0:Bd) (w0:World) (ex:Nat→Bool) (obj:Nat→Option Ob) (β:Env) (w:World) (a:Act),Good B0 m0 w0 ex obj β w→(∀ k,q k=true→ex k=true∧obj k=ob[k]?)→(∀ k,ob.length≤k→k<ob'.length→ex k=false)→m0≤ob.length →
  (∀ (k i:Nat) (D:Thing) (D':Thing),ex k=true→obj k=some (.al i D)→ob'[ob.length]?=some (.al i D')→ob[k]?=some (.al i D)) →
  (∀ y∈o.op.operands,a.eval y=evS β sl y∧slotOf q sl y)→noSelectB o.op=true →
  ∀ (K:Act→World→Prop) (Q:Exit→Act→World→Prop),(∀ β' w' obj',(∀ k,¬(ob.length≤k∧k<ob'.length)→β' k=β k)→(∀ k,q' k=true→obj' k=ob'[k]?)→(∀ k,q' k=false→obj' k=obj k)→Good B0 m0 w0 (rangeQ ex ob.length ob'.length) obj' β' w'→K (a.put o.dst (x.den β')) w')→o.wp P a w K Q)
def newPl (b:Nat):Pl:=⟨b,fun i=>some ⟨b,i,none⟩,fun _=>0,fun c=>c=b,fun _=>undef⟩
theorem newPl_one (b:Nat):(newPl b).one:=⟨fun _=>Iff.rfl,fun _=>rfl⟩
theorem genOp_ok {P:Program} {m0:Nat} {st:Bool} {q:Nat→Bool} {sl:List (Nat × SV)} {o:Oper} {ob:List Ob} {ev:List (Ev P)} {x:SV} {q':Nat→Bool} {ob':List Ob} {ev':List (Ev P)} {c:Env→Eqs} (h:genOp P m0 st q sl o ob ev=.ok x q' ob' ev' c) (hq:∀ k,q k=true→k<ob.length):OpOk P m0 st q sl o ob x q' ob' c:=by
 unfold genOp at h
 have main:∀ (r:R1 Next) (f:Env→Next→Eqs),run1 P m0 st (execOp (evS idE sl) o) q ob []=some r→r.q=q'→r.ob=ob'→x.of q'=true→(∀ β,c β=chk P β (execOp (evS β sl) o) r.tr.reverse (f β)) →
   (∀ β n a w K Q,Eqs.ok (f β n)→K (a.put o.dst (x.den β)) w→o.upon P a K Q (.ok n w))→OpOk P m0 st q sl o ob x q' ob' c:=by
  intro r f hr e1 e2 hx hc hf
  subst e1 e2
  obtain ⟨h1,h2,h3,tr,h4,h5⟩:=run1_ok _ _ _ _ _ hr hq
  refine ⟨⟨h1,h2,h3,hx⟩,fun hok B0 w0 ex obj β w a g hxq hn hm _ hop hns K Q hK=>?_⟩
  obtain ⟨β',hβ⟩:∃ β':Env,β'=fun k=>if ob.length≤k∧k<r.ob.length then newPl (w.heap.size+(k-ob.length)) else β k:=⟨_,rfl⟩
  have hex:∀ k,ex k=true→β k=β' k:=fun k hk=>by
   rw [hβ]
   dsimp only
   rw [if_neg]
   intro hh
   rw [hn k hh.1 hh.2] at hk
   cases hk
  have g':=g.congr hex
  obtain ⟨k1,obj',k2,k3,k4⟩:=h5 B0 w0 ex obj β' w g' hxq (fun k a b=>⟨hn k a b,by rw [hβ]; dsimp only; rw [if_pos ⟨a,b⟩]; exact newPl_one _,by rw [hβ]; dsimp only; rw [if_pos ⟨a,b⟩]; rfl⟩) hm
  have hcc:=hok β'
  rw [hc β',h4,List.append_nil,List.reverse_reverse] at hcc
  obtain ⟨n,hrun,hfn⟩:=chk_run _ _ _ hcc k1
  have hev:execOp a.eval o=execOp (evS β' sl) o:=execOp_congr o (noSelect_of hns) fun y hy=>by
   obtain ⟨e1,e2⟩:=hop y hy
   rw [e1]
   exact evS_congr (fun k hk=>hex k (hxq k hk).1) y e2
  unfold Oper.wp
  rw [hev,hrun]
  exact hf β' n a _ K Q hfn (hK β' _ obj' (fun k hk=>by rw [hβ]; dsimp only; rw [if_neg hk]) k2 k3 k4)
 split at h
 · rename_i v q1 ob1 tr hr
   rw [cond_eq_ite] at h
   split at h
   · rename_i hof
     injection h with h1 h2 h3 h4 h5
     subst h1
     refine main _ (fun β n=>match n with | .value u=>[(.v u,.v ((fixV ob1 (tag v)).den β))] | _=>Eqs.no) hr h2 h3 (by rw [← h2]; exact hof) (fun β=>by subst h5; rfl) ?_
     intro β n a w K Q hf hK
     cases n<;>first | exact (Eqs.no_ok hf).elim | skip
     obtain ⟨e,_⟩:=Eqs.cons_ok hf
     injection e with e
     subst e
     exact hK
   · cases h
 · rename_i q1 ob1 tr hr
   injection h with h1 h2 h3 h4 h5
   subst h1
   refine main _ (fun β n=>match n with | .skip=>[] | _=>Eqs.no) hr h2 h3 rfl (fun β=>by subst h5; rfl) ?_
   intro β n a w K Q hf hK
   cases n<;>first | exact (Eqs.no_ok hf).elim | skip
   exact hK
 · cases h
theorem aloneB_spec {i:Nat}:∀ {ob:List Ob} {n:Nat},aloneB i ob n=true→∀ (k:Nat) (D:Thing),ob[k]?≠some (.al i D)
 | [],_,_,k,D=>by simp
 | x::l,n,h,k,D=>by
  cases k with
  | zero =>
   intro e
   simp only [List.getElem?_cons_zero] at e
   obtain rfl:=Option.some.inj e
   simp [aloneB] at h
  | succ k =>
   rw [List.getElem?_cons_succ]
   refine aloneB_spec (n:=n+1) ?_ k D
   cases x<;>simp [aloneB] at h<;>first | exact h | exact h.2
theorem execOp_call {ρ:Operand→Value} {o:Oper} {fo:Operand} {xs:Array Operand} {ats:Array TypeId} {g:FuncId} {X Y:Array Value} (ho:o.op=.call ⟨.value fo,xs,ats⟩) (hf:ρ fo=.func (.func g) X Y):execOp ρ o=callFunc g (X++xs.map ρ++Y):=by
 unfold execOp
 rw [ho]
 simp only [resolve,hf,Deferred.ofValue,invoke]
 rfl
theorem exec_append {P:Program} {ρ:Operand→Value} {o:Oper} {w:World} (s x:Operand) (t:TypeId) (ho:o.op=.call ⟨.builtin .append,#[s,x],#[t,t]⟩) {v u v':Value} {w':World} (hs:ρ s=v) (hx:ρ x=u) (h:(Builtin.append_ #[t,t] o.type #[v,u]).run P w=.ok v' w') :
  (execOp ρ o).run P w=.ok (.value v') w':=by
 unfold execOp
 simp only [ho,resolve,invoke,builtin,Sem.run_bind,Sem.run_pure,Result.andThen_ok,List.map_toArray,List.map_cons,List.map_nil,hs,hx,h]
theorem scalar_cell {u:Value} (h:isScalar u=true):u.oneCell'=true:=by
 cases u<;>first | rfl | (cases h; done)
theorem addr_at (g o j:Nat):(⟨g,o,none⟩:Addr).add j=⟨g,o+j,none⟩:=Addr.add_lit ..
theorem newsOf_ok {B0:Bd} {m0:Nat} {w0:World} {ex q:Nat→Bool} {obj:Nat→Option Ob} {β:Env} {w:World} {ob:List Ob} (g:Good B0 m0 w0 ex obj β w) (hq:∀ k,q k=true→ex k=true∧obj k=ob[k]?) {sz:Nat} {y:SV} {news:List Lf} {m:Nat} (h:newsOf q ob sz y=some (news,m)) :
  news.all (Lf.of ex)=true∧∃ a c,y.den β=.slice (some a) m c∧(news.map (Lf.den β)).length=m*sz∧∀ j u,(news.map (Lf.den β))[j]?=some u→w.cell? (a.add j)=some u:=by
 have key:∀ (k o n:Nat) (cs:List Lf) (t:TypeId),q k=true→layAt ob k=some (cs,t)→((cs.drop o).take (n*sz)).length=n*sz →
   ((cs.drop o).take (n*sz)).all (Lf.of ex)=true∧(((cs.drop o).take (n*sz)).map (Lf.den β)).length=n*sz∧∀ j u,(((cs.drop o).take (n*sz)).map (Lf.den β))[j]?=some u→w.cell? ((⟨(β k).b,o,none⟩:Addr).add j)=some u:=by
  intro k o n cs t hk hl hlen
  obtain ⟨h1,h2⟩:=hq k hk
  obtain ⟨x,e1,e2,_⟩:=layAt_eq hl
  obtain ⟨cur,c1,_,c3⟩:=g.lay h1 (by rw [h2]; exact e1) (layAt_now hl _ e1) e2
  have hof:=(g.hold k x h1 (by rw [h2]; exact e1)).2
  rw [lay_of e2] at hof
  refine ⟨List.all_eq_true.2 fun z hz=>List.all_eq_true.1 hof z (List.mem_of_mem_drop (List.mem_of_mem_take hz)),by rw [List.length_map]; exact hlen,fun j u hu=>?_⟩
  rw [addr_at]
  rw [List.getElem?_map] at hu
  cases hz:((cs.drop o).take (n*sz))[j]? with
  | none=>rw [hz] at hu; cases hu
  | some l =>
   rw [hz] at hu
   obtain rfl:=Option.some.inj hu
   refine cell_lay c1 (c3 _ _ ?_)
   have hj:=(List.getElem?_eq_some_iff.1 hz).1
   rw [List.getElem?_take_of_lt (by omega),List.getElem?_drop] at hz
   exact hz
 unfold newsOf at h
 split at h
 · rename_i k o n c
   rw [cond_eq_ite] at h
   split at h
   · rename_i hk
     split at h
     · rename_i cs t hl
       rw [cond_eq_ite] at h
       split at h
       · rename_i hb
         rw [Nat.beq_eq] at hb
         injection h with h
         injection h with h1 h2
         subst h1 h2
         obtain ⟨k1,k2,k3⟩:=key k o n cs t hk hl hb
         exact ⟨k1,_,_,rfl,k2,k3⟩
       · cases h
     · cases h
   · cases h
 · rename_i k n
   rw [cond_eq_ite] at h
   split at h
   · rename_i hk
     split at h
     · rename_i cs t hl
       rw [cond_eq_ite] at h
       split at h
       · rename_i hb
         rw [Nat.beq_eq] at hb
         injection h with h
         injection h with h1 h2
         subst h1 h2
         obtain ⟨k1,k2,k3⟩:=key k 0 n cs t hk hl hb
         exact ⟨k1,_,_,rfl,k2,k3⟩
       · cases h
     · cases h
   · cases h
 · cases h
theorem rowOf_ok {q:Nat→Bool} {ob:List Ob} {m0 e sz:Nat} {y:SV} {k:Option Nat} {cs:List Lf} {n:Nat} (h:rowOf q ob m0 e sz y=some (k,cs,n)) :
  (k=none∧cs=[]∧n=0∧∀ β,y.den β=.slice none 0 0)∨∃ i,k=some i∧q i=true∧m0≤i∧ob[i]?=some (.row cs e n sz)∧∀ β:Env,y.den β=.slice (some ⟨(β i).b,0,none⟩) n ((β i).c 0):=by
 unfold rowOf at h
 split at h
 · rw [cond_eq_ite] at h
   split at h
   · rename_i hb
     simp only [Bool.and_eq_true,Nat.beq_eq] at hb
     obtain ⟨rfl,rfl⟩:=hb
     injection h with h
     injection h with h1 h2
     injection h2 with h2 h3
     exact .inl ⟨h1.symm,h2.symm,h3.symm,fun _=>rfl⟩
   · cases h
 · rename_i i m
   rw [cond_eq_ite] at h
   split at h
   · rename_i hb
     simp only [Bool.and_eq_true,Nat.ble_eq] at hb
     split at h
     · rename_i cs' t n' sz' ho
       rw [cond_eq_ite] at h
       split at h
       · rename_i hc
         simp only [Bool.and_eq_true,Nat.beq_eq] at hc
         obtain ⟨⟨rfl,rfl⟩,rfl⟩:=hc
         injection h with h
         injection h with h1 h2
         injection h2 with h2 h3
         subst h2 h3
         exact .inr ⟨i,h1.symm,hb.1,hb.2,ho,fun _=>rfl⟩
       · cases h
     · cases h
   · cases h
 · cases h
theorem killO_len (ob:List Ob) (k:Option Nat):(killO ob k).length=ob.length:=by cases k<;>simp [killO]
def rowPl (b c:Nat):Pl:=⟨b,fun i=>some ⟨b,i,none⟩,fun _=>c,fun x=>x=b,fun _=>undef⟩
theorem rowPl_one (b c:Nat):(rowPl b c).one:=⟨fun _=>Iff.rfl,fun _=>rfl⟩
theorem run_bs0 {P:Program} (w:World) (t e:TypeId) (i:TypeInfo) (z:Value) (ht:P.underlying t=some (.slice e)) (hi:P.info? e=some i) :
  (Instr.buildSlice t 0 #[]).run P w=.ok (.slice (some ⟨w.heap.size,0,none⟩) 0 0) (w.alloc (.cells (madeCells z.cells (0*i.size)) e)):=by
 simp [Instr.buildSlice,run_underlying ht,typeInfo,hi,sizeOf,newRow,madeCells,Array.range_zero',Instr.fill]
theorem mkRowS_ok {P:Program} {m0:Nat} {st:Bool} {q:Nat→Bool} {sl:List (Nat × SV)} {o:Oper} {op:Op} {ob:List Ob} {ev:List (Ev P)} {A:AppT P} {x:SV} {q':Nat→Bool} {ob':List Ob} {ev':List (Ev P)} {c:Env→Eqs} (hop0:o.op=op) (h:mkRowS P st q sl op ob ev A=.ok x q' ob' ev' c) (hq:∀ k,q k=true→k<ob.length):OpOk P m0 st q sl o ob x q' ob' c:=by
 unfold mkRowS at h
 split at h
 · rename_i t l c'
   split at h
   · rename_i kl L kc C hl hc
     rw [cond_eq_ite] at h
     split at h
     · rename_i hb
       simp only [Bool.and_eq_true,Nat.ble_eq,decide_eq_true_eq] at hb
       obtain ⟨⟨hst,hC⟩,hby⟩:=hb
       rw [lit_eq] at h
       injection h with h1 h2 h3 h4 h5
       subst h1 h2 h3
       have hlen:(ob++[Ob.row [] A.e 0 A.sz]).length=ob.length+1:=by rw [List.length_append]; rfl
       refine ⟨⟨by omega,fun k=>by rw [hlen,addQ_iff]; constructor<;>rintro (a | a)<;>first | exact .inl a | exact .inr (by omega),fun e=>(by rw [hst] at e; cases e),by simp [SV.of,SC.of,Lf.of,Lf0.of,addQ]⟩,?_⟩
       intro hok B0 w0 ex obj β w a g hxq hn hm hu hopd hns K Q hK
       rw [hlen] at hn hK
       have hcc:=hok β
       rw [← h5] at hcc
       obtain ⟨e1,hc1⟩:=Eqs.cons_ok hcc
       obtain ⟨e2,hc2⟩:=Eqs.cons_ok hc1
       obtain ⟨e3,_⟩:=Eqs.cons_ok hc2
       injection e1 with e1
       injection e2 with e2
       injection e3 with e3
       have hop:o.op=.makeSlice A.t l c':=hop0.trans e1
       have hs:=(hopd l (by rw [hop]; simp [Op.operands])).1.trans e2
       have hy:=(hopd c' (by rw [hop]; simp [Op.operands])).1.trans e3
       obtain ⟨n,rfl⟩:=Int.eq_ofNat_of_zero_le hC
       rw [Int.toNat_natCast] at hby
       have hbb:n*A.i.bytes≤140737488355328:=by
        rw [A.hby]
        exact Nat.le_trans (Nat.mul_le_mul_left _ (Nat.le_succ _)) hby
       have hnm:n≤140737488355328:=Nat.le_trans (Nat.le_mul_of_pos_right _ (Nat.succ_pos _)) hby
       have hml:n≤maxLen:=by simp only [maxLen]; omega
       have hnn:=hn ob.length (Nat.le_refl _) (by omega)
       have hlast:(ob++[Ob.row [] A.e 0 A.sz])[ob.length]?=some (Ob.row [] A.e 0 A.sz):=by
        rw [List.getElem?_append_right (Nat.le_refl _),Nat.sub_self]; rfl
       have hbi:(A.i.bytes:Int)*(n:Int)≤281474976710656:=by
        have h:((A.i.bytes*n:Nat):Int)≤281474976710656:=by rw [Nat.mul_comm]; omega
        rwa [Int.natCast_mul] at h
       have hrun:=run_make (P:=P) w A.t A.e A.i A.z A.ht A.hi A.hz kl kc 0 (n:Int) (Int.le_refl _) (by omega) hbi (by omega)
       simp only [Int.toNat_zero,Int.toNat_natCast] at hrun
       have hex:(execOp a.eval o).run P w=.ok (.value (.slice (some ⟨w.heap.size,0,none⟩) 0 n)) (w.alloc (.cells (madeCells A.z.cells (n*A.i.size)) A.e)):=by
        simp [execOp,hop,hs,hy,hrun,Result.andThen]
       obtain ⟨β',hβ⟩:∃ β':Env,β'=fun k=>if k=ob.length then rowPl w.heap.size n else β k:=⟨_,rfl⟩
       have hβn:β' ob.length=rowPl w.heap.size n:=by rw [hβ]; exact if_pos rfl
       have hβo:∀ k,k≠ob.length→β' k=β k:=fun k hk=>by rw [hβ]; exact if_neg hk
       have hexn:∀ k,ex k=true→k≠ob.length:=fun k hk e=>by rw [e,hnn] at hk; cases hk
       have g':=g.congr (β':=β') fun k hk=>(hβo k (hexn k hk)).symm
       have hbel:Below w.heap.size w (w.alloc (.cells (madeCells A.z.cells (n*A.i.size)) A.e)):=(Below.refl _ _).alloc (Nat.le_refl _) _
       have key:=g'.push (n:=ob.length) hbel hnn (by rw [hβn]; exact rowPl_one ..) (by rw [hβn]; exact Nat.le_refl _) (by rw [hβn]; show w.heap.size<_; simp) (x:=.row [] A.e 0 A.sz) (by
        rw [hβn]
        refine ⟨rowPl_one ..,_,heap_alloc_new w _,by simp,Nat.zero_le _,hml,?_,by simp⟩
        rw [size_madeCells,A.hsize]
        rfl) rfl rfl
       unfold Oper.wp
       rw [hex]
       refine Eq.mp ?_ (hK β' _ _ (fun k hk=>hβo k (by omega)) ?_ ?_ (key.view (fun k=>?_) (fun _ _=>rfl)))
       · show K (a.put o.dst (.slice (some ⟨(β' ob.length).b,0,none⟩) 0 ((β' ob.length).c 0))) _=_
         rw [hβn]
         rfl
       · intro k2 hk
         rcases addQ_iff.1 hk with hk | rfl
         · have:=hq k2 hk
           rw [updO_ne (by omega),List.getElem?_append_left this]
           exact (hxq k2 hk).2
         · rw [updO_eq,hlast]
       · intro k2 hk
         have e:k2≠ob.length:=fun e=>by rw [addQ_iff.2 (.inr e)] at hk; cases hk
         rw [updO_ne e]
       · rw [Bool.eq_iff_iff,rangeQ_iff,addQ_iff]
         constructor<;>rintro (a | a)<;>first | exact .inl a | exact .inr (by omega)
     · cases h
   · cases h
 · rename_i t len parts
   rw [cond_eq_ite] at h
   split at h
   · rename_i hb
     simp only [Bool.and_eq_true] at hb
     obtain ⟨⟨hst,_⟩,_⟩:=hb
     rw [lit_eq] at h
     injection h with h1 h2 h3 h4 h5
     subst h1 h2 h3
     have hlen:(ob++[Ob.row [] A.e 0 A.sz]).length=ob.length+1:=by rw [List.length_append]; rfl
     refine ⟨⟨by omega,fun k=>by rw [hlen,addQ_iff]; constructor<;>rintro (a | a)<;>first | exact .inl a | exact .inr (by omega),fun e=>(by rw [hst] at e; cases e),by simp [SV.of,SC.of,Lf.of,Lf0.of,addQ]⟩,?_⟩
     intro hok B0 w0 ex obj β w a g hxq hn hm hu hopd hns K Q hK
     rw [hlen] at hn hK
     have hcc:=hok β
     rw [← h5] at hcc
     obtain ⟨e1,hc1⟩:=Eqs.cons_ok hcc
     injection e1 with e1
     have hop:o.op=.buildSlice A.t 0 #[]:=hop0.trans e1
     have hml:0≤maxLen:=Nat.zero_le _
     have hnn:=hn ob.length (Nat.le_refl _) (by omega)
     have hlast:(ob++[Ob.row [] A.e 0 A.sz])[ob.length]?=some (Ob.row [] A.e 0 A.sz):=by
      rw [List.getElem?_append_right (Nat.le_refl _),Nat.sub_self]; rfl
     have hrun:=run_bs0 w A.t A.e A.i A.z A.ht A.hi
     have hex:(execOp a.eval o).run P w=.ok (.value (.slice (some ⟨w.heap.size,0,none⟩) 0 0)) (w.alloc (.cells (madeCells A.z.cells (0*A.i.size)) A.e)):=by
      simp [execOp,hop,hrun,Result.andThen]
     obtain ⟨β',hβ⟩:∃ β':Env,β'=fun k=>if k=ob.length then rowPl w.heap.size 0 else β k:=⟨_,rfl⟩
     have hβn:β' ob.length=rowPl w.heap.size 0:=by rw [hβ]; exact if_pos rfl
     have hβo:∀ k,k≠ob.length→β' k=β k:=fun k hk=>by rw [hβ]; exact if_neg hk
     have hexn:∀ k,ex k=true→k≠ob.length:=fun k hk e=>by rw [e,hnn] at hk; cases hk
     have g':=g.congr (β':=β') fun k hk=>(hβo k (hexn k hk)).symm
     have hbel:Below w.heap.size w (w.alloc (.cells (madeCells A.z.cells (0*A.i.size)) A.e)):=(Below.refl _ _).alloc (Nat.le_refl _) _
     have key:=g'.push (n:=ob.length) hbel hnn (by rw [hβn]; exact rowPl_one ..) (by rw [hβn]; exact Nat.le_refl _) (by rw [hβn]; show w.heap.size<_; simp) (x:=.row [] A.e 0 A.sz) (by
      rw [hβn]
      refine ⟨rowPl_one ..,_,heap_alloc_new w _,by simp,Nat.zero_le _,hml,?_,by simp⟩
      rw [size_madeCells,A.hsize]
      rfl) rfl rfl
     unfold Oper.wp
     rw [hex]
     refine Eq.mp ?_ (hK β' _ _ (fun k hk=>hβo k (by omega)) ?_ ?_ (key.view (fun k=>?_) (fun _ _=>rfl)))
     · show K (a.put o.dst (.slice (some ⟨(β' ob.length).b,0,none⟩) 0 ((β' ob.length).c 0))) _=_
       rw [hβn]
       rfl
     · intro k2 hk
       rcases addQ_iff.1 hk with hk | rfl
       · have:=hq k2 hk
         rw [updO_ne (by omega),List.getElem?_append_left this]
         exact (hxq k2 hk).2
       · rw [updO_eq,hlast]
     · intro k2 hk
       have e:k2≠ob.length:=fun e=>by rw [addQ_iff.2 (.inr e)] at hk; cases hk
       rw [updO_ne e]
     · rw [Bool.eq_iff_iff,rangeQ_iff,addQ_iff]
       constructor<;>rintro (a | a)<;>first | exact .inl a | exact .inr (by omega)
   · cases h
 · cases h
theorem appS_ok {P:Program} {m0:Nat} {st:Bool} {q:Nat→Bool} {sl:List (Nat × SV)} {o:Oper} {op:Op} {ob:List Ob} {ev:List (Ev P)} {A:AppT P} {x:SV} {q':Nat→Bool} {ob':List Ob} {ev':List (Ev P)} {c:Env→Eqs} (hop0:o.op=op) (h:appS P m0 st q sl op ob ev A=.ok x q' ob' ev' c) (hq:∀ k,q k=true→k<ob.length):OpOk P m0 st q sl o ob x q' ob' c:=by
 unfold appS at h
 split at h
 · rename_i xs ats
   split at h
   · rename_i s y hxs
     split at h
     · rename_i k cs n news m hr hnw
       rw [cond_eq_ite] at h
       split at h
       · rename_i hb
         simp only [Bool.and_eq_true,Nat.ble_eq] at hb
         obtain ⟨⟨⟨hst,hm1⟩,hby⟩,hsc⟩:=hb
         rw [lit_eq,lit_eq] at h
         injection h with h1 h2 h3 h4 h5
         subst h1 h2 h3
         have hlen:(killO ob k++[Ob.row (cs++news) A.e (n+m) A.sz]).length=ob.length+1:=by rw [List.length_append,killO_len]; rfl
         refine ⟨⟨by omega,fun k=>by rw [hlen,addQ_iff]; constructor<;>rintro (a | a)<;>first | exact .inl a | exact .inr (by omega),fun e=>(by rw [hst] at e; cases e),by simp [SV.of,SC.of,Lf.of,Lf0.of,addQ]⟩,?_⟩
         intro hok B0 w0 ex obj β w a g hxq hn hm hu hopd hns K Q hK
         rw [hlen] at hn hK
         have hc:=hok β
         rw [← h5] at hc
         obtain ⟨e1,hc1⟩:=Eqs.cons_ok hc
         obtain ⟨e2,hc2⟩:=Eqs.cons_ok hc1
         obtain ⟨e3,_⟩:=Eqs.cons_ok hc2
         injection e1 with e1
         injection e2 with e2
         injection e3 with e3
         have hop:o.op=.call ⟨.builtin .append,#[s,y],#[A.t,A.t]⟩:=hop0.trans e1
         have hs:=(hopd s (by rw [hop]; simp [Op.operands,Call.operands])).1.trans e2
         have hy:=(hopd y (by rw [hop]; simp [Op.operands,Call.operands])).1.trans e3
         obtain ⟨hnof,ad,cc,hyd,hnl,hncell⟩:=newsOf_ok g hxq hnw
         rw [hyd] at hy
         have hnn:=hn ob.length (Nat.le_refl _) (by omega)
         have hlast:(killO ob k++[Ob.row (cs++news) A.e (n+m) A.sz])[ob.length]?=some (Ob.row (cs++news) A.e (n+m) A.sz):=by
          rw [List.getElem?_append_right (by rw [killO_len]; omega),killO_len,Nat.sub_self]; rfl
         have hone':∀ u∈news.map (Lf.den β),u.oneCell'=true:=fun u hu=>by
          obtain ⟨l,hl,rfl⟩:=List.mem_map.1 hu
          exact scalar_cell (scalar_den (List.all_eq_true.1 hsc l hl))
         have hszs:=A.hsize
         have hnl':(news.map (Lf.den β)).length=m*A.i.size:=by rw [hszs]; exact hnl
         have hbb:(n+m)*A.i.bytes≤140737488355328:=by
          rw [A.hby]
          exact Nat.le_trans (Nat.mul_le_mul_left _ (Nat.le_succ _)) hby
         have hnm:n+m≤140737488355328:=Nat.le_trans (Nat.le_mul_of_pos_right _ (Nat.succ_pos _)) hby
         have hml:n+m≤maxLen:=by simp only [maxLen]; omega
         have fresh:∀ (old:Nat) (obj1:Nat→Option Ob),Good B0 m0 w0 ex obj1 β w→(∀ j,ex j=true→j<ob.length∨obj1 j=obj j)→(∀ j,q j=true→obj1 j=(killO ob k)[j]?)→(∀ j,ex j=false→obj1 j=obj j)→(∀ j,q j=false→obj1 j=obj j) →
           (cs.all (Lf.of ex)=true)→cs.length=n*A.sz →
           (execOp a.eval o).run P w=.ok (.value (.slice (some ⟨w.heap.size,0,none⟩) (n+m) (grownCap w (n+m) old A.e))) (w.drew.alloc (.cells ((cs.map (Lf.den β)).toArray++(news.map (Lf.den β)).toArray++Builtin.zeroCells A.z.cells (grownCap w (n+m) old A.e-(n+m))) A.e))→o.wp P a w K Q:=by
          intro old obj1 g1 _ hq1 _ hq2 hcof hcl hrun
          obtain ⟨β',hβ⟩:∃ β':Env,β'=fun k=>if k=ob.length then rowPl w.heap.size (grownCap w (n+m) old A.e) else β k:=⟨_,rfl⟩
          have hβn:β' ob.length=rowPl w.heap.size (grownCap w (n+m) old A.e):=by rw [hβ]; exact if_pos rfl
          have hβo:∀ k,k≠ob.length→β' k=β k:=fun k hk=>by rw [hβ]; exact if_neg hk
          have hexn:∀ k,ex k=true→k≠ob.length:=fun k hk e=>by rw [e,hnn] at hk; cases hk
          have g':=g1.congr (β':=β') fun k hk=>(hβo k (hexn k hk)).symm
          have hge:=grownCap_ge w (n+m) old A.e
          have hcm:grownCap w (n+m) old A.e≤maxLen:=grownCap_le_maxLen w (n+m) old A.e hml
          have hbel:Below w.heap.size w (w.drew.alloc (.cells ((cs.map (Lf.den β)).toArray++(news.map (Lf.den β)).toArray++Builtin.zeroCells A.z.cells (grownCap w (n+m) old A.e-(n+m))) A.e)) :=
           ⟨rfl,rfl,rfl,by simp,fun k hk=>(Array.getElem?_push_lt hk).trans (Array.getElem?_eq_getElem hk).symm⟩
          have hmap:∀ l:List Lf,l.all (Lf.of ex)=true→l.map (Lf.den β')=l.map (Lf.den β):=fun l hl=>all_congr hl (Lf.den_congr fun k hk=>hβo k (hexn k hk))
          have hall:(cs++news).all (Lf.of ex)=true:=by rw [List.all_append,hcof,hnof]; rfl
          have key:=g'.push (n:=ob.length) hbel hnn (by rw [hβn]; exact rowPl_one ..) (by rw [hβn]; exact Nat.le_refl _) (by rw [hβn]; show w.heap.size<_; simp) (x:=.row (cs++news) A.e (n+m) A.sz) (by
           rw [hβn]
           refine ⟨rowPl_one ..,_,heap_alloc_new w.drew _,?_,hge,hcm,?_,?_⟩
           · have:news.length=m*A.sz:=by rw [← List.length_map (f:=Lf.den β)]; exact hnl
             rw [List.length_append,hcl,this,Nat.add_mul]
           · have:news.length=m*A.sz:=by rw [← List.length_map (f:=Lf.den β)]; exact hnl
             simp only [Array.size_append,List.size_toArray,size_zeroCells,A.hzs,List.length_map,hcl,this,← Nat.add_mul]
             show _=grownCap w (n+m) old A.e*A.sz
             congr 1
             omega
           · have:news.length=m*A.sz:=by rw [← List.length_map (f:=Lf.den β)]; exact hnl
             rw [hmap _ hall,List.map_append]
             simp only [Array.toList_append,List.append_assoc]
             rw [← List.append_assoc]
             have hl2:(cs.map (Lf.den β)++news.map (Lf.den β)).length=(n+m)*A.sz:=by rw [List.length_append,List.length_map,List.length_map,hcl,this,Nat.add_mul]
             rw [← hl2]
             exact List.take_left) hall rfl
          unfold Oper.wp
          rw [hrun]
          refine Eq.mp ?_ (hK β' _ _ (fun k hk=>hβo k (by omega)) ?_ ?_ (key.view (fun k=>?_) (fun _ _=>rfl)))
          · show K (a.put o.dst (.slice (some ⟨(β' ob.length).b,0,none⟩) (n+m) ((β' ob.length).c 0))) _=_
            rw [hβn]
            rfl
          · intro k2 hk
            rcases addQ_iff.1 hk with hk | rfl
            · have:=hq k2 hk
              rw [updO_ne (by omega),List.getElem?_append_left (by rw [killO_len]; exact this)]
              exact hq1 k2 hk
            · rw [updO_eq,hlast]
          · intro k2 hk
            have e:k2≠ob.length:=fun e=>by rw [addQ_iff.2 (.inr e)] at hk; cases hk
            rw [updO_ne e]
            refine hq2 k2 ?_
            cases hk3:q k2 with
            | false=>rfl
            | true=>rw [addQ_iff.2 (.inl hk3)] at hk; cases hk
          · rw [Bool.eq_iff_iff,rangeQ_iff,addQ_iff]
            constructor<;>rintro (a | a)<;>first | exact .inl a | exact .inr (by omega)
         rcases rowOf_ok hr with ⟨rfl,rfl,rfl,hsd⟩ | ⟨i,rfl,hqi,hmi,hobi,hsd⟩
         · rw [hsd] at hs
           have hrun:=run_append_nil (P:=P) w A.t o.type A.e A.i A.z A.ht A.hi A.hz ad m cc (news.map (Lf.den β)) hnl' hncell (by omega) (by omega) (by have:=hbb; rw [Nat.zero_add] at this; omega)
           refine fresh 0 obj g (fun j hj=>.inr rfl) (fun j hj=>(hxq j hj).2) (fun _ _=>rfl) (fun _ _=>rfl) rfl (by simp) (exec_append s y A.t hop hs hy ?_)
           simpa using hrun
         · rw [hsd] at hs
           obtain ⟨hexi,hobj⟩:=hxq i hqi
           rw [hobi] at hobj
           obtain ⟨hhold,hof⟩:=g.hold i _ hexi hobj
           obtain ⟨hone,cur,hcur,hcl,hncap,hcapm,hcsz,htake⟩:=hhold
           have hil:=hq i hqi
           by_cases hroom:n+m≤(β i).c 0
           · have hfit:n*A.i.size+(news.map (Lf.den β)).length≤cur.size:=by rw [hnl',hszs,hcsz,← Nat.add_mul]; exact Nat.mul_le_mul_right _ hroom
             have hrun:=run_append_room (P:=P) w A.t o.type A.e A.i A.ht A.hi (β i).b n ((β i).c 0) cur hcur ad m cc (news.map (Lf.den β)) hnl' hncell hone' hroom hfit
             obtain ⟨β',hβ⟩:∃ β':Env,β'=fun k=>if k=ob.length then β i else β k:=⟨_,rfl⟩
             have hβn:β' ob.length=β i:=by rw [hβ]; exact if_pos rfl
             have hβo:∀ k,k≠ob.length→β' k=β k:=fun k hk=>by rw [hβ]; exact if_neg hk
             have hexn:∀ k,ex k=true→k≠ob.length:=fun k hk e=>by rw [e,hnn] at hk; cases hk
             have hβi:=hβo i (by omega)
             have g':=g.congr (β':=β') fun k hk=>(hβo k (hexn k hk)).symm
             have hmap:∀ l:List Lf,l.all (Lf.of ex)=true→l.map (Lf.den β')=l.map (Lf.den β):=fun l hl=>all_congr hl (Lf.den_congr fun k hk=>hβo k (hexn k hk))
             have hall:(cs++news).all (Lf.of ex)=true:=by rw [List.all_append,hnof,Bool.and_true]; exact hof
             have hnl3:news.length=m*A.sz:=by rw [← List.length_map (f:=Lf.den β)]; exact hnl
             have hsize:(cur.toList.take (n*A.i.size)++news.map (Lf.den β)++cur.toList.drop (n*A.i.size+(news.map (Lf.den β)).length)).toArray.size=cur.size:=by
              simp only [List.size_toArray,List.length_append,List.length_take,List.length_drop,Array.length_toList]
              omega
             have htouch:Touch w (w.setRow (β i).b (cur.toList.take (n*A.i.size)++news.map (Lf.den β)++cur.toList.drop (n*A.i.size+(news.map (Lf.den β)).length)).toArray) (β i).b 0 cur.size :=
              ⟨rfl,rfl,rfl,by simp,fun k hk hne=>setRow_other w _ k _ hne,fun cs2 t2 fr2 h2=>by
               rw [hcur] at h2
               obtain ⟨rfl,rfl,rfl⟩:=Obj.cells.inj (Option.some.inj h2)
               refine ⟨_,setRow_heap w _ _ _ _ _ hcur,hsize,fun j hj=>?_⟩
               have hj2:cur.size≤j:=by omega
               rw [Array.getElem?_eq_none (by rw [hsize]; exact hj2),Array.getElem?_eq_none hj2]⟩
             have key:=g'.more (n:=ob.length) (N:=cur.size) hexi hobj (p:=(cs,A.e)) rfl hmi hil hnn (by rw [hβn,hβi]) (by rw [hβi]; exact ⟨cur,A.e,hcur,A.he,by omega⟩) (by rw [hβi]; exact htouch) (x:=.row (cs++news) A.e (n+m) A.sz) (by
              rw [hβi]
              refine ⟨hone,_,setRow_heap w _ _ _ _ _ hcur,?_,hroom,hcapm,by rw [hsize]; exact hcsz,?_⟩
              · rw [List.length_append,hcl,hnl3,Nat.add_mul]
              · rw [hmap _ hall,List.map_append,hszs,htake]
                have hl2:(cs.map (Lf.den β)++news.map (Lf.den β)).length=(n+m)*A.sz:=by rw [List.length_append,List.length_map,List.length_map,hcl,hnl3,Nat.add_mul]
                rw [← hl2]
                exact List.take_left) hall (p2:=(cs++news,A.e)) rfl
             unfold Oper.wp
             rw [exec_append s y A.t hop hs hy hrun]
             refine Eq.mp ?_ (hK β' _ _ (fun k hk=>hβo k (by omega)) ?_ ?_ (key.view (fun k=>?_) (fun _ _=>rfl)))
             · show K (a.put o.dst (.slice (some ⟨(β' ob.length).b,0,none⟩) (n+m) ((β' ob.length).c 0))) _=_
               rw [hβn]
               rfl
             · intro k2 hk
               rcases addQ_iff.1 hk with hk | rfl
               · have:=hq k2 hk
                 rw [updO_ne (by omega),List.getElem?_append_left (by rw [killO_len]; exact this)]
                 show _=(ob.set i .dead)[k2]?
                 rw [List.getElem?_set]
                 by_cases e:k2=i
                 · rw [e,updO_eq,if_pos rfl,if_pos hil]
                 · rw [updO_ne e,if_neg (Ne.symm e)]
                   exact (hxq k2 hk).2
               · rw [updO_eq,hlast]
             · intro k2 hk
               have e:k2≠ob.length:=fun e=>by rw [addQ_iff.2 (.inr e)] at hk; cases hk
               have e2:k2≠i:=fun e=>by rw [addQ_iff.2 (.inl (by rw [e]; exact hqi))] at hk; cases hk
               rw [updO_ne e,updO_ne e2]
             · rw [Bool.eq_iff_iff,rangeQ_iff,addQ_iff]
               constructor<;>rintro (a | a)<;>first | exact .inl a | exact .inr (by omega)
           · have hrun:=run_append_grow (P:=P) w A.t o.type A.e A.i A.z A.ht A.hi A.hz ⟨(β i).b,0,none⟩ n ((β i).c 0) (cs.map (Lf.den β)) (by rw [List.length_map,hszs]; exact hcl) (fun j u hu=>by
              rw [addr_at,Nat.zero_add]
              refine cell_lay hcur ?_
              have hj:j<n*A.sz:=by have:=(List.getElem?_eq_some_iff.1 hu).1; rw [List.length_map,hcl] at this; exact this
              rw [← htake,List.getElem?_take_of_lt hj] at hu
              simpa using hu) ad m cc (news.map (Lf.den β)) hnl' hncell (by omega) (by omega) (growslice_fits (by omega) hbb)
             refine fresh _ (updO obj i .dead) (g.kill hobj (p:=(cs,A.e)) rfl) (fun j hj=>?_) (fun j hj=>?_) (fun j hj=>updO_ne fun e=>by rw [e,hexi] at hj; cases hj) (fun j hj=>updO_ne fun e=>by rw [e,hqi] at hj; cases hj) hof hcl (exec_append s y A.t hop hs hy hrun)
             · by_cases e:j=i
               · exact .inl (by rw [e]; exact hil)
               · exact .inr (updO_ne e)
             · show _=(ob.set i .dead)[j]?
               rw [List.getElem?_set]
               by_cases e:j=i
               · rw [e,updO_eq,if_pos rfl,if_pos hil]
               · rw [updO_ne e,if_neg (Ne.symm e)]
                 exact (hxq j hj).2
       · cases h
     · cases h
   · cases h
 · cases h
theorem opS0_ok {P:Program} {m0:Nat} {st:Bool} {q:Nat→Bool} {sl:List (Nat × SV)} {o:Oper} {ob:List Ob} {ev:List (Ev P)} {x:SV} {q':Nat→Bool} {ob':List Ob} {ev':List (Ev P)} {c:Env→Eqs} (h:opS0 P m0 st q sl o ob ev=.ok x q' ob' ev' c) (hq:∀ k,q k=true→k<ob.length):OpOk P m0 st q sl o ob x q' ob' c:=by
 unfold opS0 at h
 split at h
 · rename_i fo xs ats hop
   split at h
   · rename_i f en args needs n res news ok ev1
     rw [cond_eq_ite] at h
     split at h
     · rename_i hb
       simp only [Bool.and_eq_true,Bool.or_eq_true,Nat.beq_eq] at hb
       injection h with h1 h2 h3 h4 h5
       subst h1 h2 h3
       have hlen:(ob++news.map Thing.ob).length=ob.length+news.length:=by simp
       refine ⟨⟨by omega,fun k=>by rw [hlen]; exact rangeQ_iff,fun _=>⟨_,rfl⟩,hb.2⟩,?_⟩
       intro hok B0 w0 ex obj β w a g hxq hn hm hu hopd hns K Q hK
       rw [hlen] at hn hK
       have hc:=hok β
       rw [← h5] at hc
       dsimp only at hc
       split at hc
       · rename_i gg X Y hfo
         obtain ⟨e1,hc1⟩:=Eqs.cons_ok hc
         obtain ⟨e2,hc2⟩:=Eqs.cons_ok hc1
         injection e1 with e1
         injection e2 with e2
         injection e2 with e2
         have hneeds:=needs_holdN g hxq needs hc2
         subst e1
         have hfo':a.eval fo=.func (.func gg) X Y:=by rw [(hopd fo (by rw [hop]; simp [Op.operands,Call.operands])).1]; exact hfo
         have hargs:xs.map a.eval=xs.map (evS β sl):=Array.map_congr_left fun y hy=>(hopd y (by rw [hop]; simp [Op.operands,Call.operands,hy])).1
         unfold Oper.wp
         rw [execOp_call hop hfo',hargs,e2,en]
         refine (ok β w hneeds).mono ?_
         rintro e w' ⟨ys,hfr,rfl,hh,hbel⟩
         have hys:=(newHold_get hh).1
         have hnn:news.length=0∨n=ob.length:=hb.1
         have key:=g.news (n:=ob.length) hbel hh hm (fun x hx c hc=>(hfr x hx c hc).imp id fun ⟨p,p1,p2,p3⟩=>by
          obtain ⟨o,o0,o1,o2,o3⟩:=needs_th g hxq needs (needs_N hc2 (fun e0=>by rw [← hys,List.length_eq_zero_iff] at e0; rw [e0] at hx; cases hx)) p p1 p2
          exact ⟨p.1,o,hq _ o0,o1,o2,o3,p3⟩) hn
         have hext:extE β n ys=extE β ob.length ys:=by
          rcases hnn with e | e
          · rw [e] at hys
            obtain rfl:=List.eq_nil_of_length_eq_zero hys
            rw [extE_nil,extE_nil]
          · rw [e]
         rw [hext]
         refine hK _ w' _ (fun k hk=>extE_out (by rw [hys]; exact hk)) ?_ ?_ key
         · intro k hk
           by_cases e:ob.length≤k∧k<ob.length+news.length
           · rw [if_pos e,List.getElem?_append_right e.1,List.getElem?_map]
           · rw [if_neg e]
             rcases rangeQ_iff.1 hk with hk | hk
             · rw [List.getElem?_append_left (hq k hk)]; exact (hxq k hk).2
             · exact absurd hk e
         · intro k hk
           rw [if_neg]
           intro e
           rw [rangeQ_iff.2 (.inr e)] at hk
           cases hk
       · exact (Eqs.no_ok hc).elim
     · cases h
   · rename_i f en args r ok ev1
     rw [cond_eq_ite] at h
     split at h
     · rename_i hof
       injection h with h1 h2 h3 h4 h5
       subst h1 h2 h3
       refine ⟨⟨Nat.le_refl _,fun k=>⟨.inl,fun hk=>hk.elim id (fun hk=>by omega)⟩,fun _=>⟨[],by simp⟩,SV.of_mono (fun _ hk=>by cases hk) _ hof⟩,?_⟩
       intro hok B0 w0 ex obj β w a g hxq hn hm hu hopd hns K Q hK
       have hc:=hok β
       rw [← h5] at hc
       dsimp only at hc
       split at hc
       · rename_i gg X Y hfo
         obtain ⟨e1,hc1⟩:=Eqs.cons_ok hc
         obtain ⟨e2,hc2⟩:=Eqs.cons_ok hc1
         obtain ⟨e3,_⟩:=Eqs.cons_ok hc2
         injection e1 with e1
         injection e2 with e2
         injection e2 with e2
         injection e3 with e3
         subst e1
         have hfo':a.eval fo=.func (.func gg) X Y:=by rw [(hopd fo (by rw [hop]; simp [Op.operands,Call.operands])).1]; exact hfo
         have hargs:xs.map a.eval=xs.map (evS β sl):=Array.map_congr_left fun y hy=>(hopd y (by rw [hop]; simp [Op.operands,Call.operands,hy])).1
         unfold Oper.wp
         rw [execOp_call hop hfo',hargs,e2,en]
         refine (ok w).mono ?_
         rintro e w' ⟨rfl,hbel⟩
         have:=hK β w' obj (fun _ _=>rfl) (fun k hk=>(hxq k hk).2) (fun _ _=>rfl) (by rw [rangeQ_self]; exact g.on hbel)
         rw [e3] at this
         exact this
       · exact (Eqs.no_ok hc).elim
     · cases h
   · rename_i f en args needs i N n D ok ev1
     split at h
     · rename_i N' hob
       rw [cond_eq_ite] at h
       split at h
       · rename_i hb
         simp only [Bool.and_eq_true,Nat.beq_eq,Nat.ble_eq] at hb
         obtain ⟨⟨⟨⟨rfl,rfl⟩,hqi⟩,hmi⟩,hal⟩:=hb
         injection h with h1 h2 h3 h4 h5
         subst h1 h2 h3
         have hlen:(ob++[Ob.al i D]).length=ob.length+1:=by simp
         refine ⟨⟨by omega,fun k=>by rw [hlen,addQ_iff]; constructor<;>rintro (a | a)<;>first | exact .inl a | exact .inr (by omega),fun _=>⟨_,rfl⟩,by simp [SV.of,SC.of,Lf.of,Lf0.of,addQ]⟩,?_⟩
         intro hok B0 w0 ex obj β w a g hxq hn hm hu hopd hns K Q hK
         rw [hlen] at hn hK
         have hc:=hok β
         rw [← h5] at hc
         dsimp only at hc
         split at hc
         · rename_i gg X Y hfo
           obtain ⟨e1,hc1⟩:=Eqs.cons_ok hc
           obtain ⟨e2,hc2⟩:=Eqs.cons_ok hc1
           injection e1 with e1
           injection e2 with e2
           injection e2 with e2
           have hneeds:=needs_hold g hxq needs hc2
           subst e1
           obtain ⟨hexi,hobi⟩:=hxq i hqi
           rw [hob] at hobi
           have hil:=hq i hqi
           have hnn:=hn ob.length (Nat.le_refl _) (by omega)
           have hfo':a.eval fo=.func (.func gg) X Y:=by rw [(hopd fo (by rw [hop]; simp [Op.operands,Call.operands])).1]; exact hfo
           have hargs:xs.map a.eval=xs.map (evS β sl):=Array.map_congr_left fun y hy=>(hopd y (by rw [hop]; simp [Op.operands,Call.operands,hy])).1
           unfold Oper.wp
           rw [execOp_call hop hfo',hargs,e2,en]
           refine (ok β w hneeds (g.hold i _ hexi hobi).1.1 (g.hold i _ hexi hobi).1.2).mono ?_
           rintro e w' ⟨rfl,hD,hT⟩
           obtain ⟨β',hβ⟩:∃ β':Env,β'=fun k=>if k=ob.length then β i else β k:=⟨_,rfl⟩
           have hβn:β' ob.length=β i:=by rw [hβ]; exact if_pos rfl
           have hβo:∀ k,k≠ob.length→β' k=β k:=fun k hk=>by rw [hβ]; exact if_neg hk
           have hβi:=hβo i (by omega)
           have g':=g.congr (β':=β') fun k hk=>(hβo k (fun e=>by rw [e,hnn] at hk; cases hk)).symm
           have key:=g'.fill (n:=ob.length) hexi hobi hmi (hq _ hqi) hnn (by rw [hβn,hβi]) (fun k D2 hk hx2=>?_) (by rw [hβi]; exact hT) (by rw [hβi]; exact hD)
           · refine Eq.mp ?_ (hK β' w' _ (fun k hk=>hβo k (by omega)) ?_ ?_ (key.view (fun k=>?_) (fun _ _=>rfl)))
             · show K (a.put o.dst (.pointer ((β' ob.length).v 0))) w'=_
               rw [hβn,(g.hold i _ hexi hobi).1.1.2 0]
             · intro k hk
               rcases addQ_iff.1 hk with hk | rfl
               · have:=hq k hk
                 rw [updO_ne (by omega),List.getElem?_append_left this]; exact (hxq k hk).2
               · rw [updO_eq]; simp
             · intro k hk
               exact updO_ne fun e=>by rw [addQ_iff.2 (.inr e)] at hk; cases hk
             · rw [Bool.eq_iff_iff,rangeQ_iff,addQ_iff]
               constructor<;>rintro (a | a)<;>first | exact .inl a | exact .inr (by omega)
           · exact aloneB_spec hal k D2 (hu k i D2 D hk hx2 (by simp))
         · exact (Eqs.no_ok hc).elim
       · cases h
     · cases h
   · cases h
 · split at h
   · rename_i d op' xs r okr ev1
     split at h
     · rename_i t ht
       rw [cond_eq_ite] at h
       split at h
       · rw [cond_eq_ite] at h
         split at h
         · rename_i hof
           injection h with h1 h2 h3 h4 h5
           subst h1 h2 h3
           refine ⟨⟨Nat.le_refl _,fun k=>⟨.inl,fun hk=>hk.elim id (fun hk=>by omega)⟩,fun _=>⟨[],by simp⟩,SV.of_mono (fun _ hk=>by cases hk) _ hof⟩,?_⟩
           intro hok B0 w0 ex obj β w a g hxq hn hm hu hopd hns K Q hK
           have hc:=hok β
           rw [← h5] at hc
           obtain ⟨e1,hc⟩:=Eqs.cons_ok hc
           obtain ⟨e2,hc⟩:=Eqs.cons_ok hc
           obtain ⟨e3,hc⟩:=Eqs.cons_ok hc
           injection e1 with e1
           injection e2 with e2
           injection e2 with e2
           injection e3 with e3
           unfold Oper.wp
           rw [okr a.eval o w e1 (by
            have:o.op.operands.map a.eval=o.op.operands.map (evS β sl):=Array.map_congr_left fun y hy=>(hopd y hy).1
            rw [← e1,← Array.toList_map,this,e2])]
           have:=hK β w obj (fun _ _=>rfl) (fun k hk=>(hxq k hk).2) (fun _ _=>rfl) (by rw [rangeQ_self]; exact g)
           rw [← e3] at this
           exact this
         · cases h
       · exact genOp_ok h hq
     · exact genOp_ok h hq
   · rename_i d op' xs needs n res news ok ev1
     split at h
     · rename_i t ht
       rw [cond_eq_ite] at h
       split at h
       · rw [cond_eq_ite] at h
         split at h
         · rename_i hb
           simp only [Bool.and_eq_true,Bool.or_eq_true,Nat.beq_eq] at hb
           injection h with h1 h2 h3 h4 h5
           subst h1 h2 h3
           have hlen:(ob++news.map Thing.ob).length=ob.length+news.length:=by simp
           refine ⟨⟨by omega,fun k=>by rw [hlen]; exact rangeQ_iff,fun _=>⟨_,rfl⟩,hb.2⟩,?_⟩
           intro hok B0 w0 ex obj β w a g hxq hn hm hu hopd hns K Q hK
           rw [hlen] at hn hK
           have hc:=hok β
           rw [← h5] at hc
           obtain ⟨e1,hc⟩:=Eqs.cons_ok hc
           obtain ⟨e2,hc⟩:=Eqs.cons_ok hc
           injection e1 with e1
           injection e2 with e2
           injection e2 with e2
           have hneeds:=needs_holdN g hxq needs hc
           obtain ⟨ys,w',hfr,hrun,hh,hbel⟩:=ok β w hneeds a.eval o e1 (by
            have:o.op.operands.map a.eval=o.op.operands.map (evS β sl):=Array.map_congr_left fun y hy=>(hopd y hy).1
            rw [← e1,← Array.toList_map,this,e2])
           have hys:=(newHold_get hh).1
           have hnn:news.length=0∨n=ob.length:=hb.1
           have key:=g.news (n:=ob.length) hbel hh hm (fun x hx c hc2=>(hfr x hx c hc2).imp id fun ⟨p,p1,p2,p3⟩=>by
            obtain ⟨o,o0,o1,o2,o3⟩:=needs_th g hxq needs (needs_N hc (fun e0=>by rw [← hys,List.length_eq_zero_iff] at e0; rw [e0] at hx; cases hx)) p p1 p2
            exact ⟨p.1,o,hq _ o0,o1,o2,o3,p3⟩) hn
           have hext:extE β n ys=extE β ob.length ys:=by
            rcases hnn with e | e
            · rw [e] at hys
              obtain rfl:=List.eq_nil_of_length_eq_zero hys
              rw [extE_nil,extE_nil]
            · rw [e]
           unfold Oper.wp
           rw [hrun,hext]
           refine hK _ w' _ (fun k hk=>extE_out (by rw [hys]; exact hk)) ?_ ?_ key
           · intro k hk
             by_cases e:ob.length≤k∧k<ob.length+news.length
             · rw [if_pos e,List.getElem?_append_right e.1,List.getElem?_map]
             · rw [if_neg e]
               rcases rangeQ_iff.1 hk with hk | hk
               · rw [List.getElem?_append_left (hq k hk)]; exact (hxq k hk).2
               · exact absurd hk e
           · intro k hk
             rw [if_neg]
             intro e
             rw [rangeQ_iff.2 (.inr e)] at hk
             cases hk
         · cases h
       · exact genOp_ok h hq
     · exact genOp_ok h hq
   · rename_i d x1 r hxr ev1
     split at h
     · rename_i t ht
       rw [cond_eq_ite] at h
       split at h
       · split at h
         · rename_i v q1 ob1 _ c1 hg
           rw [cond_eq_ite] at h
           split at h
           · rename_i hof
             injection h with h1 h2 h3 h4 h5
             subst h1 h2 h3
             obtain ⟨⟨g1,g2,g3,g4⟩,g5⟩:=genOp_ok hg hq
             refine ⟨⟨g1,g2,g3,SV.of_mono (fun _ hk=>by cases hk) _ hof⟩,?_⟩
             intro hok B0 w0 ex obj β w a g hxq hn hm hu hopd hns K Q hK
             have hall:∀ β,v.den β=(tag r).den β∧Eqs.ok (c1 β):=fun β=>by
              have hc:=hok β
              rw [← h5] at hc
              obtain ⟨e1,k1⟩:=Eqs.cons_ok hc
              obtain ⟨e2,k2⟩:=Eqs.cons_ok k1
              injection e1 with e1
              injection e2 with e2
              exact ⟨by rw [e1,e2,hxr],k2⟩
             refine g5 (fun β=>(hall β).2) B0 w0 ex obj β w a g hxq hn hm hu hopd hns K Q fun β' w' obj' a1 a2 a3 a4=>?_
             rw [(hall β').1]
             exact hK β' w' obj' a1 a2 a3 a4
           · cases h
         · cases h
       · exact genOp_ok h hq
     · exact genOp_ok h hq
   · rename_i d N ev1
     split at h
     · rename_i t ht
       rw [cond_eq_ite] at h
       split at h
       · split at h
         · rename_i v q1 ob1 _ c1 hg
           split at h
           · rename_i cs tt hbx
             rw [cond_eq_ite] at h
             split at h
             · rename_i hb
               simp only [Bool.and_eq_true,Nat.beq_eq,Nat.ble_eq,Bool.not_eq_true'] at hb
               obtain ⟨⟨hl1,hN⟩,htt⟩:=hb
               have htt:tt≠278:=fun e=>by rw [e] at htt; exact absurd htt (by decide)
               injection h with h1 h2 h3 h4 h5
               subst h1 h2 h3 h5
               obtain ⟨⟨g1,g2,g3,g4⟩,g5⟩:=genOp_ok hg hq
               obtain ⟨l,hl⟩:=g3 rfl
               have hlen:(ob++[Ob.pl N]).length=ob1.length:=by rw [hl1]; simp
               refine ⟨⟨by rw [hlen]; exact g1,fun k=>by rw [hlen]; exact g2 k,fun _=>⟨_,rfl⟩,g4⟩,?_⟩
               intro hok B0 w0 ex obj β w a g hxq hn hm hu hopd hns K Q hK
               rw [hlen] at hn hK
               refine g5 hok B0 w0 ex obj β w a g hxq hn hm (fun k i D D' _ _ hx=>by rw [hbx] at hx; cases hx) hopd hns K Q fun β' w' obj' a1 a2 a3 a4=>?_
               have hqn:q1 ob.length=true:=(g2 _).2 (.inr ⟨Nat.le_refl _,by omega⟩)
               refine hK β' w' (updO obj' ob.length (.pl N)) a1 (fun k hk=>?_) (fun k hk=>?_) (a4.weak (by rw [a2 _ hqn]; exact hbx) htt hN)
               · by_cases e:k=ob.length
                 · rw [e,updO_eq]; simp
                 · have hk2:k<ob.length:=by rcases (g2 k).1 hk with x | x; exact hq k x; omega
                   rw [updO_ne e,a2 k hk,hl,List.getElem?_append_left hk2,List.getElem?_append_left hk2]
               · rw [updO_ne (fun e=>by rw [e,hqn] at hk; cases hk)]
                 exact a3 k hk
             · cases h
           · cases h
         · cases h
       · exact genOp_ok h hq
     · exact genOp_ok h hq
   · rw [cond_eq_ite] at h
     split at h
     · exact appS_ok rfl h hq
     · rw [cond_eq_ite] at h
       split at h
       · exact mkRowS_ok rfl h hq
       · exact genOp_ok h hq
   · exact genOp_ok h hq
def UniqAl (ob:List Ob):Prop:=∀ (k j i:Nat) (D:Thing) (D':Thing),ob[k]?=some (.al i D)→ob[j]?=some (.al i D')→k=j
theorem UniqAl.append {ob l:List Ob} (h:UniqAl ob) (hl:∀ x∈l,x.own=true):UniqAl (ob++l):=by
 have key:∀ (k i:Nat) (D:Thing),(ob++l)[k]?=some (.al i D)→ob[k]?=some (.al i D):=by
  intro k i D hk
  rw [List.getElem?_append] at hk
  split at hk
  · exact hk
  · have:=hl _ (List.mem_of_getElem? hk)
    cases this
 exact fun k j i D D' h1 h2=>h k j i D D' (key _ _ _ h1) (key _ _ _ h2)
theorem UniqAl.set {ob:List Ob} (h:UniqAl ob) (i:Nat) {x:Ob} (hx:x.own=true):UniqAl (ob.set i x):=by
 have key:∀ (k j:Nat) (D:Thing),(ob.set i x)[k]?=some (.al j D)→ob[k]?=some (.al j D):=by
  intro k j D hk
  rw [List.getElem?_set] at hk
  split at hk
  · split at hk
    · obtain rfl:=Option.some.inj hk
      cases hx
    · cases hk
  · exact hk
 exact fun k j i D D' h1 h2=>h k j i D D' (key _ _ _ h1) (key _ _ _ h2)
theorem UniqAl.sets {ob:List Ob} (h:UniqAl ob) (i:Nat) {x:Ob} (hx:∀ j D,x≠.al j D):UniqAl (ob.set i x):=by
 have key:∀ (k j:Nat) (D:Thing),(ob.set i x)[k]?=some (.al j D)→ob[k]?=some (.al j D):=by
  intro k j D hk
  rw [List.getElem?_set] at hk
  split at hk
  · split at hk
    · exact absurd (Option.some.inj hk) (hx j D)
    · cases hk
  · exact hk
 exact fun k j i D D' h1 h2=>h k j i D D' (key _ _ _ h1) (key _ _ _ h2)
theorem mkRowS_uq {P:Program} {st:Bool} {q:Nat→Bool} {sl:List (Nat × SV)} {op:Op} {ob:List Ob} {ev:List (Ev P)} {A:AppT P} {x:SV} {q':Nat→Bool} {ob':List Ob} {ev':List (Ev P)} {c:Env→Eqs} (h:mkRowS P st q sl op ob ev A=.ok x q' ob' ev' c) (hu:UniqAl ob):UniqAl ob':=by
 unfold mkRowS at h
 split at h
 · split at h
   · rw [cond_eq_ite] at h
     split at h
     · rw [lit_eq] at h
       injection h with h1 h2 h3 h4 h5
       subst h3
       exact UniqAl.append hu fun x hx=>by rw [List.mem_singleton.1 hx]; rfl
     · cases h
   · cases h
 · rw [cond_eq_ite] at h
   split at h
   · rw [lit_eq] at h
     injection h with h1 h2 h3 h4 h5
     subst h3
     exact UniqAl.append hu fun x hx=>by rw [List.mem_singleton.1 hx]; rfl
   · cases h
 · cases h
theorem appS_uq {P:Program} {m0:Nat} {st:Bool} {q:Nat→Bool} {sl:List (Nat × SV)} {op:Op} {ob:List Ob} {ev:List (Ev P)} {A:AppT P} {x:SV} {q':Nat→Bool} {ob':List Ob} {ev':List (Ev P)} {c:Env→Eqs} (h:appS P m0 st q sl op ob ev A=.ok x q' ob' ev' c) (hu:UniqAl ob):UniqAl ob':=by
 unfold appS at h
 split at h
 · split at h
   · split at h
     · rename_i k cs n news m hr hnw
       rw [cond_eq_ite] at h
       split at h
       · rw [lit_eq,lit_eq] at h
         injection h with h1 h2 h3 h4 h5
         subst h3
         refine UniqAl.append ?_ fun x hx=>by rw [List.mem_singleton.1 hx]; rfl
         cases k with
         | none=>exact hu
         | some k=>exact hu.sets k fun _ _ e=>by cases e
       · cases h
     · cases h
   · cases h
 · cases h
theorem run1_uq {α:Type} {P:Program} {m0:Nat} {st:Bool}:∀ (s:Sem α) (q:Nat→Bool) (ob:List Ob) (tr0:List Tr) (r:R1 α),run1 P m0 st s q ob tr0=some r→UniqAl ob→UniqAl r.ob:=by
 intro s
 induction s with
 | pure a=>intro q ob tr0 r h hu; simp only [run1] at h; obtain rfl:=Option.some.inj h; exact hu
 | load m a k ih =>
  intro q ob tr0 r h hu
  obtain ⟨b,o,sp⟩:=a
  cases sp with
  | some n=>simp only [run1] at h; cases h
  | none =>
   simp only [run1] at h
   split at h
   · split at h
     · rw [lit_eq] at h
       split at h
       · exact ih _ _ _ _ _ h hu
       · cases h
     · cases h
   · cases h
 | store m a v k ih =>
  intro q ob tr0 r h hu
  obtain ⟨b,o,sp⟩:=a
  cases sp with
  | some n=>simp only [run1] at h; cases h
  | none =>
   simp only [run1] at h
   split at h
   · split at h
     · rw [lit_eq,cond_eq_ite] at h
       split at h
       · rename_i hob _
         obtain ⟨y,hy1,hy2,hy3⟩:=layAt_eq hob
         rw [hy3] at h
         exact ih _ _ _ _ h (hu.set _ (lay_own (setC_lay _ _ hy2)))
       · cases h
     · cases h
   · cases h
 | new x k ih =>
  intro q ob tr0 r h hu
  cases x<;>simp only [run1] at h<;>first | (cases h; done) | skip
  rw [cond_eq_ite] at h
  split at h
  · rw [lit_eq] at h
    exact ih _ _ _ _ _ h (hu.append fun x hx=>by rw [List.mem_singleton.1 hx]; rfl)
  · cases h
 | shape b k ih =>
  intro q ob tr0 r h hu
  simp only [run1] at h
  split at h
  · split at h
    · exact ih _ _ _ _ _ h hu
    · cases h
  · cases h
 | freeze a n k ih=>intro q ob tr0 r h _; simp only [run1] at h; cases h
 | frozen a k ih =>
  intro q ob tr0 r h hu
  obtain ⟨b,o,sp⟩:=a
  cases sp with
  | some n=>simp only [run1] at h; cases h
  | none =>
   simp only [run1] at h
   split at h
   · split at h
     · exact ih _ _ _ _ _ h hu
     · cases h
   · cases h
 | getObj r k ih=>intro q ob tr0 r h _; simp only [run1] at h; cases h
 | setObj r o k ih=>intro q ob tr0 r h _; simp only [run1] at h; cases h
 | choose c k ih=>intro q ob tr0 r h _; simp only [run1] at h; cases h
 | sys c k ih=>intro q ob tr0 r h _; simp only [run1] at h; cases h
 | program k ih=>intro q ob tr0 r h hu; simp only [run1] at h; exact ih _ _ _ _ _ h hu
 | mark m k ih=>intro q ob tr0 r h hu; simp only [run1] at h; exact ih _ _ _ _ h hu
 | halt x=>intro q ob tr0 r h _; simp only [run1] at h; cases h
theorem genOp_uq {P:Program} {m0:Nat} {st:Bool} {q:Nat→Bool} {sl:List (Nat × SV)} {o:Oper} {ob:List Ob} {ev:List (Ev P)} {x:SV} {q':Nat→Bool} {ob':List Ob} {ev':List (Ev P)} {c:Env→Eqs} (h:genOp P m0 st q sl o ob ev=.ok x q' ob' ev' c) (hu:UniqAl ob):UniqAl ob':=by
 unfold genOp at h
 split at h
 · rename_i v q1 ob1 tr hr
   rw [cond_eq_ite] at h
   split at h
   · injection h with h1 h2 h3 h4 h5
     subst h3
     exact run1_uq _ _ _ _ _ hr hu
   · cases h
 · rename_i q1 ob1 tr hr
   injection h with h1 h2 h3 h4 h5
   subst h3
   exact run1_uq _ _ _ _ _ hr hu
 · cases h
theorem opS0_uq {P:Program} {m0:Nat} {st:Bool} {q:Nat→Bool} {sl:List (Nat × SV)} {o:Oper} {ob:List Ob} {ev:List (Ev P)} {x:SV} {q':Nat→Bool} {ob':List Ob} {ev':List (Ev P)} {c:Env→Eqs} (h:opS0 P m0 st q sl o ob ev=.ok x q' ob' ev' c) (hu:UniqAl ob):UniqAl ob':=by
 unfold opS0 at h
 split at h
 · split at h
   · rw [cond_eq_ite] at h
     split at h
     · injection h with h1 h2 h3 h4 h5
       subst h3
       exact hu.append fun x hx=>by obtain ⟨t,_,rfl⟩:=List.mem_map.1 hx; rfl
     · cases h
   · rw [cond_eq_ite] at h
     split at h
     · injection h with h1 h2 h3 h4 h5
       subst h3
       exact hu
     · cases h
   · split at h
     · rw [cond_eq_ite] at h
       split at h
       · rename_i hb
         simp only [Bool.and_eq_true] at hb
         injection h with h1 h2 h3 h4 h5
         subst h3
         have hal:=aloneB_spec hb.2
         intro k j i D D' h6 h7
         rw [List.getElem?_append] at h6 h7
         split at h6
         · split at h7
           · exact hu k j i D D' h6 h7
           · rename_i hj
             rw [List.getElem?_singleton] at h7
             split at h7
             · obtain ⟨e,_⟩:=Ob.al.inj (Option.some.inj h7)
               subst e
               exact absurd h6 (hal k D)
             · cases h7
         · rw [List.getElem?_singleton] at h6
           split at h6
           · obtain ⟨e,_⟩:=Ob.al.inj (Option.some.inj h6)
             subst e
             split at h7
             · exact absurd h7 (hal j D')
             · rw [List.getElem?_singleton] at h7
               split at h7
               · omega
               · cases h7
           · cases h6
       · cases h
     · cases h
   · cases h
 · split at h
   · split at h
     · rw [cond_eq_ite] at h
       split at h
       · rw [cond_eq_ite] at h
         split at h
         · injection h with h1 h2 h3 h4 h5
           subst h3
           exact hu
         · cases h
       · exact genOp_uq h hu
     · exact genOp_uq h hu
   · split at h
     · rw [cond_eq_ite] at h
       split at h
       · rw [cond_eq_ite] at h
         split at h
         · injection h with h1 h2 h3 h4 h5
           subst h3
           exact hu.append fun x hx=>by obtain ⟨t,_,rfl⟩:=List.mem_map.1 hx; rfl
         · cases h
       · exact genOp_uq h hu
     · exact genOp_uq h hu
   · split at h
     · rw [cond_eq_ite] at h
       split at h
       · split at h
         · rename_i hg
           rw [cond_eq_ite] at h
           split at h
           · injection h with h1 h2 h3 h4 h5
             subst h3
             exact genOp_uq hg hu
           · cases h
         · cases h
       · exact genOp_uq h hu
     · exact genOp_uq h hu
   · split at h
     · rw [cond_eq_ite] at h
       split at h
       · split at h
         · split at h
           · rw [cond_eq_ite] at h
             split at h
             · injection h with h1 h2 h3 h4 h5
               subst h3
               exact hu.append fun x hx=>by rw [List.mem_singleton.1 hx]; rfl
             · cases h
           · cases h
         · cases h
       · exact genOp_uq h hu
     · exact genOp_uq h hu
   · rw [cond_eq_ite] at h
     split at h
     · exact appS_uq h hu
     · rw [cond_eq_ite] at h
       split at h
       · exact mkRowS_uq h hu
       · exact genOp_uq h hu
   · exact genOp_uq h hu
theorem opS_ok {P:Program} {m0:Nat} {st:Bool} {q:Nat→Bool} {sl:List (Nat × SV)} {o:Oper} {ob:List Ob} {ev:List (Ev P)} {x:SV} {q':Nat→Bool} {ob':List Ob} {ev':List (Ev P)} {c:Env→Eqs} (h:opS P m0 st q sl o ob ev=.ok x q' ob' ev' c) (hq:∀ k,q k=true→k<ob.length):OpOk P m0 st q sl o ob x q' ob' c:=opS0_ok h hq
theorem opS_uq {P:Program} {m0:Nat} {st:Bool} {q:Nat→Bool} {sl:List (Nat × SV)} {o:Oper} {ob:List Ob} {ev:List (Ev P)} {x:SV} {q':Nat→Bool} {ob':List Ob} {ev':List (Ev P)} {c:Env→Eqs} (h:opS P m0 st q sl o ob ev=.ok x q' ob' ev' c) (hu:UniqAl ob):UniqAl ob':=opS0_uq h hu
end
end Go.Proofs.YthkpghhoffihmaaGreatDoor.Y
end
