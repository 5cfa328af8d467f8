/- SyG. -/
import Derived.DeepKeys
import Derived.Test.YthkpghhoffihmaaGreatDoorProg
import Derived.Test.YthkpghhoffihmaaGreatDoorGk7
set_option linter.unnecessarySimpa false
set_option linter.unusedVariables false
set_option linter.unusedSimpArgs false
section
namespace Go.Proofs.YthkpghhoffihmaaGreatDoor.Y
section
open Go Go.RowKit
structure Cf (P:Program) where
 sl:List (Nat × SV)
 q:Nat→Bool
 ob:List Ob
 ev:List (Ev P)
 cs:List (Env→Eqs)
def putS (sl:List (Nat × SV)) (d:Option Nat) (x:SV):List (Nat × SV):=match d with
 | some d=>(d,x)::sl
 | none=>sl
def dstIn (n:Nat) (d:Option Nat):Bool:=match d with
 | some d=>Nat.blt d n
 | none=>true
def boolS:SV→Option Bool
 | .one (.c (.b (.v (.bool b))))=>some b
 | _=>none
def noBool:SV→Bool
 | .one (.c (.b (.v (.tuple _))))=>true
 | _=>false
def eqB (a b:Bool):Bool:=match a,b with
 | true,true=>true
 | false,false=>true
 | _,_=>false
def wantedS (ops:Array Oper) (sl:List (Nat × SV)) (o:Oper):Option Bool:=match o.guard with
 | none=>some true
 | some (j,want)=>match (ops[j]?).bind (·.dst) with
  | some d=>match boolS (look sl d) with
   | some b=>some (eqB b want)
   | none=>bif noBool (look sl d) then some false else none
  | none=>none
def refS (P:Program) (m0:Nat) (q:Nat→Bool) (sl:List (Nat × SV)) (o:Oper) (ob:List Ob) (ev:List (Ev P)):OR P :=
 match o.op,dynR sl o ob ev with
 | .call ⟨.value fo,xs,_⟩,.refill f _ args needs i j N n D _::ev' =>
  match ob[i]?,ob[j]? with
  | some (.pl N'),some (.al i' _) =>
   bif Nat.beq N' N&&Nat.beq n ob.length&&Nat.ble m0 i&&Nat.beq i' i then
    .ok (.one (.c (.b (.z n 0)))) (addQ q n) (killA i ob 0++[.al i D]) ev' fun β =>
     match evS β sl fo with
     | .func (.func g) x y=>(.n g,.n f)::(.v (.agg (x++xs.map (evS β sl)++y)),.v (.agg (args β)))::needEqs q ob needs
     | _=>Eqs.no
   else .bad
  | some (.box cs t),_ =>
   bif Nat.beq j i&&Nat.ble N cs.length&&!Nat.beq t 278&&Nat.beq n ob.length&&Nat.ble m0 i&&aloneB i ob 0 then
    .ok (.one (.c (.b (.z n 0)))) (addQ q n) (ob.set i (.pl N)++[.al i D]) ev' fun β =>
     match evS β sl fo with
     | .func (.func g) x y=>(.n g,.n f)::(.v (.agg (x++xs.map (evS β sl)++y)),.v (.agg (args β)))::needEqs q ob needs
     | _=>Eqs.no
   else .bad
  | _,_=>.bad
 | _,_=>.bad
def setMs (ob:List Ob):List Mu→List Ob
 | []=>ob
 | m::r=>(setMs ob r).set m.i m.b
def isLayB:Option Ob→Bool
 | some (.box _ _)=>true
 | some (.row _ _ _ _)=>true
 | _=>false
def muB (m0:Nat) (ob:List Ob) (q':Nat→Bool) (m:Mu):Bool:=Nat.ble m0 m.i&&(isLayB ob[m.i]?&&(muK m.a m.b&&m.b.of q'))
def mutS (P:Program) (m0:Nat) (q:Nat→Bool) (sl:List (Nat × SV)) (o:Oper) (ob:List Ob) (ev:List (Ev P)):OR P :=
 match o.op,dynR sl o ob ev with
 | .call ⟨.value fo,xs,_⟩,.mut f _ args needs ms n res news _::ev' =>
  bif Nat.beq n ob.length&&(res.of (rangeQ q ob.length (ob.length+news.length))&&ms.all (muB m0 ob (rangeQ q ob.length (ob.length+news.length)))) then
   .ok res (rangeQ q ob.length (ob.length+news.length)) (setMs ob ms++news.map Thing.ob) ev' fun β =>
    match evS β sl fo with
    | .func (.func g) x y=>(.n g,.n f)::(.v (.agg (x++xs.map (evS β sl)++y)),.v (.agg (args β)))::(needEqs q ob needs++needEqs q ob (ms.map fun m=>(m.i,m.a)))
    | _=>Eqs.no
  else .bad
 | _,_=>.bad
def ownS (P:Program) (m0:Nat) (q:Nat→Bool) (sl:List (Nat × SV)) (o:Oper) (ob:List Ob) (ev:List (Ev P)):OR P :=
 match o.op,dynR sl o ob ev with
 | .call ⟨.value fo,xs,_⟩,.own f _ args needs n row res news _::ev' =>
  bif Nat.beq n ob.length&&(isLayB (some row)&&(row.of (rangeQ q ob.length (ob.length+1+news.length))&&res.of (rangeQ q ob.length (ob.length+1+news.length)))) then
   .ok res (rangeQ q ob.length (ob.length+1+news.length)) (ob++row::news.map Thing.ob) ev' fun β =>
    match evS β sl fo with
    | .func (.func g) x y=>(.n g,.n f)::(.v (.agg (x++xs.map (evS β sl)++y)),.v (.agg (args β)))::needEqs q ob needs
    | _=>Eqs.no
  else .bad
 | _,_=>.bad
def findA (i:Nat):List Ob→Nat→Option Nat
 | [],_=>none
 | .al r _::l,k=>bif Nat.beq r i then some k else findA i l (k+1)
 | _::l,k=>findA i l (k+1)
def mvS (q:Nat→Bool) (sl:List (Nat × SV)) (o:Oper) (ob:List Ob):Option Nat:=match o.op with
 | .move (.tmp t)=>match look sl t with
  | .one (.c (.b (.p i 0)))=>match ob[i]? with
   | some (.pl _)=>match findA i ob 0 with
    | some j=>bif q j&&q i then some j else none
    | none=>none
   | _=>none
  | _=>none
 | _=>none
def dynUR {P:Program} (sl:List (Nat × SV)) (o:Oper) (ob:List Ob) (ev:List (Ev P)):List (Ev P) :=
 match ev with
 | .dynU c k::r=>bif c o (o.op.operands.toList.map (opSV sl)) ob then k o (o.op.operands.toList.map (opSV sl)) ob::r else []
 | ev=>ev
def sameD:Option Nat→Option Nat→Bool
 | some a,some b=>Nat.beq a b
 | none,none=>true
 | _,_=>false
def isLayO:Option Ob→Bool
 | some (.box _ _)=>true
 | some (.row _ _ _ _)=>true
 | some (.ow _ _)=>true
 | _=>false
def oldB (m0:Nat) (ob:List Ob):Option (Nat × Ob)→Bool
 | none=>true
 | some p=>Nat.ble m0 p.1&&isLayO ob[p.1]?
def isOwO:Option Ob→Bool
 | some (.ow _ _)=>true
 | _=>false
def updS (P:Program) (m0:Nat) (q:Nat→Bool) (sl:List (Nat × SV)) (o:Oper) (ob:List Ob) (ev:List (Ev P)):OR P :=
 match dynUR sl o ob ev with
 | .upd d op' xs needs old n row res _::ev' =>
  bif sameD o.dst d&&(Nat.beq n ob.length&&(isLayO (some row)&&(oldB m0 ob old&&(row.of (rangeQ q ob.length (ob.length+1))&&res.of (rangeQ q ob.length (ob.length+1)))))) then
   .ok (match d with | some _=>res | none=>undefS) (rangeQ q ob.length (ob.length+1)) (killO ob (old.map Prod.fst)++[row]) ev' fun β =>
    (.p o.op,.p op')::(.v (.agg (o.op.operands.map (evS β sl))),.v (.agg (xs β).toArray))::(needEqs q ob needs++needEqs q ob old.toList)
  else .bad
 | .ownC f _ args needs n row res _::ev'=>match o.op with
  | .call ⟨.value fo,xs,_⟩ =>
   bif Nat.beq n ob.length&&(isLayO (some row)&&(row.of (rangeQ q ob.length (ob.length+1))&&res.of (rangeQ q ob.length (ob.length+1)))) then
    .ok res (rangeQ q ob.length (ob.length+1)) (ob++[row]) ev' fun β =>
     match evS β sl fo with
     | .func (.func g) x y=>(.n g,.n f)::(.v (.agg (x++xs.map (evS β sl)++y)),.v (.agg (args β)))::needEqs q ob needs
     | _=>Eqs.no
   else .bad
  | _=>.bad
 | .chg op' xs needs i a b _::ev' =>
  bif sameD o.dst none&&(Nat.ble m0 i&&(isOwO ob[i]?&&isOwO (some b))) then
   .ok undefS q (ob.set i b) ev' fun β=>(.p o.op,.p op')::(.v (.agg (o.op.operands.map (evS β sl))),.v (.agg (xs β).toArray))::(needEqs q ob needs++needEqs q ob [(i,a)])
  else .bad
 | _=>.bad
def ghV (q:Nat→Bool):SV→Option SV
 | .one (.c (.b (.gh k i)))=>bif q k then some (.one (.c (.b (.gh k i)))) else none
 | _=>none
def ghS (q:Nat→Bool) (sl:List (Nat × SV)) (o:Oper):Option SV:=match o.op with
 | .move (.tmp t)=>ghV q (look sl t)
 | .assign (.tmp t)=>ghV q (look sl t)
 | _=>none
def opR0 (P:Program) (m0:Nat) (st:Bool) (q:Nat→Bool) (sl:List (Nat × SV)) (o:Oper) (ob:List Ob) (ev:List (Ev P)):OR P :=
 match ghS q sl o with
 | some x=>.ok x q ob ev (fun _=>[])
 | none=>match mvS q sl o ob with
 | some j=>lit j fun j=>.ok (.one (.c (.b (.z j 0)))) q ob ev (fun _=>[])
 | none=>match updS P m0 q sl o ob ev with
  | .ok x q ob ev k=>.ok x q ob ev k
  | .bad=>match opS P m0 st q sl o ob ev with
   | .ok x q ob ev k=>.ok x q ob ev k
   | .bad=>match refS P m0 q sl o ob ev with
    | .ok x q ob ev k=>.ok x q ob ev k
    | .bad=>match mutS P m0 q sl o ob ev with
     | .ok x q ob ev k=>.ok x q ob ev k
     | .bad=>ownS P m0 q sl o ob ev
def frzO (i:Nat) (ob:List Ob):List Ob:=match ob[i]? with
 | some (.ow D _)=>ob.set i (.th D)
 | _=>ob
def opR (P:Program) (m0:Nat) (st:Bool) (q:Nat→Bool) (sl:List (Nat × SV)) (o:Oper) (ob:List Ob) (ev:List (Ev P)):OR P :=
 match ev with
 | .frz f::ev'=>lit (f ob) fun i=>opR0 P m0 st q sl o (frzO i ob) ev'
 | ev=>opR0 P m0 st q sl o ob ev
def opStep (P:Program) (m0 n:Nat) (st:Bool) (ops:Array Oper) (o:Oper) (c:Cf P):Option (Cf P) :=
 bif dstIn n o.dst&&noSelectB o.op then
  match wantedS ops c.sl o with
  | some true=>match opR P m0 st c.q c.sl o c.ob c.ev with
   | .ok x q ob ev k=>some ⟨putS c.sl o.dst x,q,ob,ev,k::c.cs⟩
   | .bad=>none
  | some false=>some { c with sl:=putS c.sl o.dst undefS }
  | none=>none
 else none
def seqS (P:Program) (m0 n:Nat) (ops:Array Oper):List Oper→Cf P→Option (Cf P)
 | [],c=>some c
 | o::r,c=>match opStep P m0 n true ops o c with
  | some c'=>seqS P m0 n ops r c'
  | none=>none
structure Hd where
 q:Nat→Bool
 dst:Option Nat
 x:SV
def waitsQ (hs:List Hd):List Edge→Nat→Bool
 | [],_=>false
 | e::r,k=>match Region.binds .any e,hs[e.on]? with
  | true,some h=>h.q k||waitsQ hs r k
  | _,_=>waitsQ hs r k
def waitsSl (hs:List Hd):List Edge→List (Nat × SV)
 | []=>[]
 | e::r=>match Region.binds .any e,hs[e.on]? with
  | true,some h=>putS (waitsSl hs r) h.dst h.x
  | _,_=>waitsSl hs r
def knownIn (l:List Oper) (hs:List Hd) (es:List Edge) (x:Operand):Bool:=match x with
 | .tmp t=>!hasR l t||(waitsSl hs es).any fun p=>Nat.beq p.1 t
 | _=>true
def guardIn (o:Oper):Bool:=match o.guard with
 | none=>true
 | some (j,_)=>o.after.toList.any fun e=>Region.binds .any e&&Nat.beq e.on j
def headS (P:Program) (m0 n:Nat) (l:List Oper) (q0:Nat→Bool) (sl0:List (Nat × SV)):List Oper→List Hd→List Ob→List (Ev P)→List (Env→Eqs)→Option (List Hd × List Ob × List (Ev P) × List (Env→Eqs))
 | [],hs,ob,ev,cs=>some (hs,ob,ev,cs)
 | o::r,hs,ob,ev,cs =>
  let wq:=waitsQ hs o.after.toList
  let q:=fun k=>q0 k||wq k
  let sl:=waitsSl hs o.after.toList++sl0
  bif dstIn n o.dst&&noSelectB o.op&&guardIn o&&o.op.operands.toList.all (knownIn l hs o.after.toList) then
   match wantedS l.toArray sl o with
   | some true=>match opS P m0 false q sl o ob ev with
    | .ok x _ ob' ev' k=>headS P m0 n l q0 sl0 r (hs++[⟨fun j=>wq j||(Nat.ble ob.length j&&Nat.blt j ob'.length),o.dst,x⟩]) ob' ev' (k::cs)
    | .bad=>none
   | some false=>headS P m0 n l q0 sl0 r (hs++[⟨wq,o.dst,undefS⟩]) ob ev cs
   | none=>none
  else none
def slotOfB (q:Nat→Bool) (sl:List (Nat × SV)):Operand→Bool
 | .tmp t=>(look sl t).of q
 | _=>true
def sameBut (K:Nat):Nat→List Ob→List Ob→Eqs
 | _,[],[]=>[]
 | k,a::r,b::s=>bif Nat.beq k K then sameBut K (k+1) r s else (.ob a,.ob b)::sameBut K (k+1) r s
 | _,_,_=>Eqs.no
def kAt:List (Nat × Nat)→Nat→Option Nat
 | [],_=>none
 | (s,K)::r,i=>bif Nat.beq s i then some K else kAt r i
def zOf:List (Nat × Nat)→Nat→Option Nat
 | [],_=>none
 | (s,K)::r,k=>bif Nat.beq K k then some s else zOf r k
def isZ (Z:List (Nat × Nat)) (k:Nat):Bool:=match zOf Z k with
 | some _=>true
 | none=>false
def eqOpt (x:Option Nat) (k:Nat):Bool:=match x with
 | some y=>Nat.beq y k
 | none=>false
def okZ (Z:List (Nat × Nat)) (N:Nat):Bool:=Z.all fun p=>Nat.blt p.1 N&&(eqOpt (kAt Z p.1) p.2&&eqOpt (zOf Z p.2) p.1)
def setZ (X:Nat→Option Ob):List (Nat × Nat)→List Ob→Option (List Ob)
 | [],ob=>some ob
 | (z,K)::r,ob=>match setZ X r ob,X z with
  | some ob',some Y=>bif Y.own then some (ob'.set K Y) else none
  | _,_=>none
def isGo:Tr→Bool
 | .go=>true
 | _=>false
def mvT (o:Oper):Option Nat:=match o.op with
 | .move (.tmp t)=>some t
 | _=>none
def pureS (P:Program) (q:Nat→Bool) (sl:List (Nat × SV)) (o:Oper):Option (SV × (Env→Eqs)) :=
 match mvT o with
 | some t=>bif (look sl t).of q then some (look sl t,fun _=>[]) else none
 | none=>match run1 P 0 false (execOp (evS idE sl) o) (fun _=>false) [] [] with
 | some ⟨.value v,_,_,tr⟩=>bif (tag v).of q&&tr.all isGo then some (tag v,fun β=>chk P β (execOp (evS β sl) o) tr.reverse fun | .value u=>[(.v u,.v ((tag v).den β))] | _=>Eqs.no) else none
 | _=>none
def visZ (l:List Oper) (Z:List (Nat × Nat)) (i k:Nat):Bool:=!isZ Z k||(match zOf Z k with
 | some z=>(match l[z]? with
  | some oz=>oz.after.toList.any fun e=>Region.binds .any e&&Nat.beq e.on i
  | none=>false)
 | none=>false)
def headS2 (P:Program) (m0 n:Nat) (l:List Oper) (q0:Nat→Bool) (sl0:List (Nat × SV)) (Z:List (Nat × Nat)):List Oper→List Hd→List Ob→(Nat→Option Ob)→List (Ev P)→List (Env→Eqs)→Option (List Hd × List Ob × (Nat→Option Ob) × List (Ev P) × List (Env→Eqs))
 | [],hs,ob,X,ev,cs=>some (hs,ob,X,ev,cs)
 | o::r,hs,ob,X,ev,cs =>
  let wq:=waitsQ hs o.after.toList
  let sl:=waitsSl hs o.after.toList++sl0
  bif dstIn n o.dst&&noSelectB o.op&&guardIn o&&o.op.operands.toList.all (knownIn l hs o.after.toList) then
   match wantedS l.toArray sl o with
   | some true=>(match kAt Z hs.length with
    | some K=>bif o.op.operands.toList.all (slotOfB (fun k=>(q0 k||wq k)&&(!isZ Z k||Nat.beq k K)) sl) then
     (match opS P m0 true (fun k=>(q0 k||wq k)&&(!isZ Z k||Nat.beq k K)) sl o ob ev with
     | .ok x _ ob' ev' k=>(match ob'[K]? with
      | some Y=>bif Y.own&&(q0 K||wq K)&&Nat.beq ob'.length ob.length then headS2 P m0 n l q0 sl0 Z r (hs++[⟨wq,o.dst,x⟩]) ob (fun j=>bif Nat.beq j hs.length then some Y else X j) ev' ((fun _=>sameBut K 0 ob ob')::k::cs) else none
      | none=>none)
     | .bad=>none) else none
    | none =>
     bif o.op.operands.toList.all (slotOfB (fun k=>(q0 k||wq k)&&visZ l Z hs.length k) sl) then (match opS P m0 false (fun k=>(q0 k||wq k)&&visZ l Z hs.length k) sl o ob ev with
     | .ok x _ ob' ev' k=>headS2 P m0 n l q0 sl0 Z r (hs++[⟨fun j=>wq j||(Nat.ble ob.length j&&Nat.blt j ob'.length),o.dst,x⟩]) ob' X ev' (k::cs)
     | .bad=>none) else
     (match pureS P (fun k=>q0 k||wq k) sl o with
     | some (x,k)=>headS2 P m0 n l q0 sl0 Z r (hs++[⟨wq,o.dst,x⟩]) ob X ev (k::cs)
     | none=>none))
   | some false=>(match kAt Z hs.length with
    | some _=>none
    | none=>headS2 P m0 n l q0 sl0 Z r (hs++[⟨wq,o.dst,undefS⟩]) ob X ev cs)
   | none=>none
  else none
def putsH:List Hd→List (Nat × SV)→List (Nat × SV)
 | [],sl=>sl
 | h::r,sl=>putsH r (putS sl h.dst h.x)
def nOf (Ns:List (Nat × Nat)) (id m:Nat):Nat:=match Ns.find? (fun p=>Nat.beq p.1 id) with
 | some p=>p.2
 | none=>m
def drawS (P:Program) (m0 n:Nat) (Ns:List (Nat × Nat)) (id:Nat) (l:List Oper) (c:Cf P):Option (Cf P) :=
 let N:=nOf Ns id l.length
 bif okR l N&&slotB (l.take N) then
  match headS P m0 n (l.take N) c.q c.sl (l.take N) [] c.ob c.ev c.cs with
  | some (hs,ob,ev,cs)=>seqS P m0 n l.toArray (l.drop N) ⟨putsH hs c.sl,rangeQ c.q c.ob.length ob.length,ob,ev,cs⟩
  | none=>none
 else none
def drawS2 (P:Program) (m0 n:Nat) (N:Nat) (Z:List (Nat × Nat)) (l:List Oper) (c:Cf P):Option (Cf P) :=
 bif okR l N&&true&&okZ Z N then
  match headS2 P m0 n (l.take N) c.q c.sl Z (l.take N) [] c.ob (fun _=>none) c.ev c.cs with
  | some (hs,ob,X,ev,cs)=>(match setZ X Z ob with
   | some ob2=>seqS P m0 n l.toArray (l.drop N) ⟨putsH hs c.sl,rangeQ c.q c.ob.length ob.length,ob2,ev,cs⟩
   | none=>none)
  | _=>none
 else none
def decZ:Nat→Nat→List (Nat × Nat)
 | 0,_=>[]
 | m+1,x=>bif Nat.beq x 0 then [] else lit (x % 1000) fun s=>lit (x/1000 % 1000-1) fun K=>(s,K)::decZ m (x/1000000)
def relZ (len:Nat):List (Nat × Nat)→List (Nat × Nat)
 | []=>[]
 | (s,K)::r=>lit (bif Nat.ble 500 K then K-500+len else K) fun K=>(s,K)::relZ len r
def drawS1 (P:Program) (m0 n:Nat) (Ns:List (Nat × Nat)) (id:Nat) (l:List Oper) (c:Cf P):Option (Cf P) :=
 (fun x=>bif Nat.ble 1000000 x then lit (x % 1000) fun N=>lit c.ob.length fun len=>drawS2 P m0 n N (relZ len (decZ 20 (x/1000))) l c else drawS P m0 n Ns id l c) (nOf Ns id l.length)
inductive Kf where
 | sq (c:Code)
 | bl (id:Nat)
 | lp (c:Code)
 | sc
def popTo (id:Nat):List Kf→Option (List Kf)
 | []=>none
 | .bl i::r=>bif Nat.beq i id then some r else popTo id r
 | _::r=>popTo id r
def runC (P:Program) (m0 n:Nat) (Ns:List (Nat × Nat)):Nat→Option Code→List Kf→Cf P→Option (Cf P)
 | 0,_,_,_=>none
 | m+1,oc,ks,f=>match oc with
  | none=>match ks with
   | []=>some f
   | .sq c::r=>runC P m0 n Ns m (some c) r f
   | .bl _::r=>runC P m0 n Ns m none r f
   | .lp c::r=>runC P m0 n Ns m (some c) (.lp c::r) f
   | .sc::r=>runC P m0 n Ns m none r f
  | some c=>match c with
   | .skip=>runC P m0 n Ns m none ks f
   | .label _=>runC P m0 n Ns m none ks f
   | .region id ops d=>match (bif d then drawS1 P m0 n Ns id ops.toList f else seqS P m0 n ops ops.toList f) with
    | some f'=>runC P m0 n Ns m none ks f'
    | none=>none
   | .seq a b=>runC P m0 n Ns m (some a) (.sq b::ks) f
   | .cond x a b=>match evS idE f.sl x with
    | .bool true=>runC P m0 n Ns m (some a) ks { f with cs:=(fun β=>[(.v (evS β f.sl x),.v (.bool true))])::f.cs }
    | .bool false=>runC P m0 n Ns m (some b) ks { f with cs:=(fun β=>[(.v (evS β f.sl x),.v (.bool false))])::f.cs }
    | _=>none
   | .block id c=>runC P m0 n Ns m (some c) (.bl id::ks) f
   | .loop c=>runC P m0 n Ns m (some c) (.lp c::ks) f
   | .scope c=>runC P m0 n Ns m (some c) (.sc::ks) f
   | .exit id=>match popTo id ks with
    | some r=>runC P m0 n Ns m none r f
    | none=>none
   | .ret=>some f
   | _=>none
def tmpsS (β:Env) (sl:List (Nat × SV)) (n:Nat):Array Value:=((List.range n).map fun t=>(look sl t).den β).toArray
def startS:List SV→Nat→List (Nat × SV)
 | [],_=>[]
 | x::r,k=>(k,x)::startS r (k+1)
def eqsOf (β:Env):List (Env→Eqs)→Eqs
 | []=>[]
 | f::r=>f β++eqsOf β r
def fin1 (P:Program) (fn:Func) (m0 n:Nat) (res:SV) (outs:List (Nat × Ob)) (f:Cf P) (β:Env):Eqs :=
 match run1 P m0 false (results fn (tmpsS idE f.sl n)) f.q f.ob [] with
 | some ⟨_,_,ob',tr⟩=>bif res.of f.q&&Nat.beq ob'.length f.ob.length&&Nat.beq f.ev.length 0 then
   chk P β (results fn (tmpsS β f.sl n)) tr.reverse (fun u=>[(.v u,.v (res.den β))])++(needEqs f.q f.ob outs++eqsOf β f.cs) else Eqs.no
 | none=>Eqs.no
def sizeS (fn:Func) (args:List SV):Nat:=args.length+(fn.ntmps-args.length)
def fullS (P:Program) (fn:Func) (args:List SV) (obs:List Ob) (evs:List (Ev P)) (Ns:List (Nat × Nat)) (m:Nat) (c:Code):Option (Cf P) :=
 runC P obs.length (sizeS fn args) Ns m (some c) [] ⟨startS args 0,fun k=>Nat.blt k obs.length,obs,evs,[]⟩
def allS (P:Program) (fn:Func) (args:List SV) (obs:List Ob) (evs:List (Ev P)) (Ns:List (Nat × Nat)) (m:Nat) (res:SV) (outs:List (Nat × Ob)) (β:Env):Eqs :=
 match fn.body with
 | some c=>match fullS P fn args obs evs Ns m c with
  | some f=>fin1 P fn obs.length (sizeS fn args) res outs f β
  | none=>Eqs.no
 | none=>Eqs.no
end
section
open Go Go.RowKit
def RegAny (P:Program) (l:List Oper) (Q:Exit→Act→World→Prop) (a:Act) (w:World):Prop:=wpAny P .any l.toArray Q l.toArray.size (Array.replicate l.toArray.size false) a { w with drawn:=w.drawn+1 }
theorem wp_region_J {P:Program} {l:List Oper} {Q:Exit→Act→World→Prop} {a0:Act} {w0:World} (N:Nat) (J:(Nat→Bool)→(Nat→Value)→World→Prop)
  (hm:P.follows .mixedOrders=true) (hB:okR l N=true) (h0:∀ u,J (fun _=>false) u w0.drew)
  (hext:∀ d d' u w,(∀ i,i<N→d i=d' i)→J d u w→J d' u w)
  (hstep:∀ d u w i o,i<N→l[i]?=some o→d i=false→(∀ e∈o.after,Region.binds .any e=true→e.on<i∧d e.on=true)→J d u w →
   (Region.wanted o (yielded l.toArray (fillR u (l.take N) 0 a0).tmps)=true→∀ K:Act→World→Prop,(∀ v w',J (fun j=>d j||Nat.beq j i) (fun j=>if j=i then v else u j) w'→K ((fillR u (l.take N) 0 a0).put o.dst v) w')→o.wp P (fillR u (l.take N) 0 a0) w K Q) ∧
   (Region.wanted o (yielded l.toArray (fillR u (l.take N) 0 a0).tmps)=false→J (fun j=>d j||Nat.beq j i) (fun j=>if j=i then undef else u j) w))
  (hend:∀ u w,J (fun _=>true) u w→wpList P l.toArray Q (l.drop N) (fillR u (l.take N) 0 a0) w):RegAny P l Q a0 w0:=by
 simp only [okR,Bool.and_eq_true,Bool.or_eq_true,decide_eq_true_eq] at hB
 obtain ⟨⟨⟨⟨hdst,hback⟩,hN⟩,htail⟩,hseq⟩:=hB
 have hdis:=distinct_of _ hdst
 have htl:(l.take N).length=N:=by rw [List.length_take]; omega
 have hsz:l.toArray.size=l.length:=by simp
 have hget:∀ i,i<N→(l.take N)[i]?=l.toArray[i]?:=by
  intro i hi
  rw [List.getElem?_take_of_lt hi]; simp
 have key:∀ (f:Nat) (listed:Array Bool) (u:Nat→Value) (w:World),HeadInv .any l.toArray N listed→leftR N listed=f→J (fun i=>listed.getD i false) u w →
   wpAny P .any l.toArray Q (f+(l.length-N)) listed (fillR u (l.take N) 0 a0) w:=by
  intro f
  induction f using Nat.strongRecOn with
  | ind f ih =>
   intro listed u w inv hf hJ
   by_cases hf0:f=0
   · subst hf0
     have hall:=leftR_zero hf
     have hlisted:listed=arrR N (l.length-N):=by
      apply Array.ext_getElem?
      intro i
      have hls:=inv.size
      by_cases hi:i<N
      · have h1:=hall i hi
        have his:i<listed.size:=by omega
        simp [his] at h1
        rw [Array.getElem?_eq_getElem his,h1,arrR_get,if_pos hi]
      · by_cases hi2:i<l.length
        · have h1:=inv.tail i (by omega) (by omega)
          have his:i<listed.size:=by omega
          simp [his] at h1
          rw [Array.getElem?_eq_getElem his,h1,arrR_get,if_neg hi,if_pos (by omega)]
        · rw [Array.getElem?_eq_none (by omega),arrR_get,if_neg hi,if_neg (by omega)]
     have hdl:(l.drop N).length=l.length-N:=List.length_drop
     have:=wpAny_of_seq (md:=.any) (Q':=Q) (P:=P) (l.drop N) N listed (fillR u (l.take N) 0 a0) w (fun j=>by simp [List.getElem?_drop]) (by rw [hdl,hlisted]; exact hseq)
      (hend u w (hext _ _ u w (fun i hi=>hall i hi) hJ))
     rw [Nat.zero_add,← hdl]
     exact this
   · obtain ⟨f',rfl⟩:∃ f',f=f'+1:=⟨f-1,by omega⟩
     have hex:∃ i,i<N∧listed.getD i false=false:=by
      rcases Classical.em (∃ i,i<N∧listed.getD i false=false) with h | h
      · exact h
      · exfalso
        apply hf0
        rw [← hf,leftR,List.length_eq_zero_iff,List.filter_eq_nil_iff]
        intro i hi
        have hi:=List.mem_range.1 hi
        cases hl:listed.getD i false with
        | true=>simp
        | false=>exact absurd ⟨i,hi,hl⟩ h
     rw [show f'+1+(l.length-N)=(f'+(l.length-N))+1 by omega]
     refine ⟨fun hnil=>?_,fun i hi=>?_⟩
     · exfalso
       suffices hno:∀ i,i<N→listed.getD i false=false→False by
        obtain ⟨i,hiN,hil⟩:=hex
        exact hno i hiN hil
       intro i
       induction i using Nat.strongRecOn with
       | ind i ihi =>
        intro hiN hil
        have hob:(l.take N)[i]?=some ((l.take N)[i]'(by omega)):=List.getElem?_eq_getElem (by omega)
        have hb:=List.all_eq_true.1 hback i (List.mem_range.2 (by omega))
        rw [hob] at hb
        have hb':=Array.all_eq_true'.1 hb
        rcases Classical.em (∃ e∈((l.take N)[i]'(by omega)).after,Region.binds .any e=true∧listed.getD e.on false=false) with h | h
        · obtain ⟨e,he,hbe,hle⟩:=h
          have hlt:e.on<i:=by have:=hb' e he; rw [hbe] at this; simpa using this
          exact ihi e.on hlt (by omega) hle
        · have:i∈Region.ready .any l.toArray listed:=mem_ready.2 ⟨_root_.Go.getD_in (by rw [inv.size]; omega) hil,_,by rw [← hget i hiN]; exact hob,fun e he hbe=>by
           cases hl:listed.getD e.on false with
           | true=>rfl
           | false=>exact absurd ⟨e,he,hbe,hl⟩ h⟩
          rw [hnil] at this
          cases this
     · have hiN:i<N:=by
        rcases htail with h | h
        · obtain ⟨_,o,ho,_⟩:=mem_ready.1 hi
          have:=(Array.getElem?_eq_some_iff.1 ho).1
          omega
        · rcases Nat.lt_or_ge i N with h1 | h1
          · exact h1
          · obtain ⟨i0,hi0,hl0⟩:=hex
            exact absurd hi (tail_waits h.1.2 h.2 (by rw [hsz]; exact h.1.1) inv _ i0 rfl hi0 (_root_.Go.getD_in (by rw [inv.size]; omega) hl0) i h1)
       obtain ⟨hun,o,ho,hdep⟩:=mem_ready.1 hi
       have hol:(l.take N)[i]?=some o:=by rw [hget i hiN]; exact ho
       have hlt:∀ e∈o.after,Region.binds .any e=true→e.on<i:=by
        intro e he hbe
        have hb:=List.all_eq_true.1 hback i (List.mem_range.2 (by omega))
        rw [hol] at hb
        have:=Array.all_eq_true'.1 hb e he
        rw [hbe] at this
        simpa using this
       have hgi:listed.getD i false=false:=by
        have hun2:=hun
        simp only [Array.getD_eq_getD_getElem?] at hun2 ⊢
        cases h:listed[i]? with
        | none=>rfl
        | some b=>rw [h] at hun2; simpa using hun2
       have hS:=hstep _ u w i o hiN (by simpa using ho) hgi (fun e he hbe=>⟨hlt e he hbe,hdep e he hbe⟩) hJ
       have next:∀ v w',J (fun j=>listed.getD j false||Nat.beq j i) (fun j=>if j=i then v else u j) w'→wpAny P .any l.toArray Q (f'+(l.length-N)) (listed.setIfInBounds i true) ((fillR u (l.take N) 0 a0).put o.dst v) w':=by
        intro v w' hJ'
        rw [fillR_at u v (l.take N) 0 i a0 o hdis hol,Nat.zero_add]
        have hinv:=inv.set hi hiN
        have hleft:=leftR_set hiN hun
        have hle:leftR N (listed.setIfInBounds i true)≤f':=by omega
        have hge:f'≤leftR N (listed.setIfInBounds i true):=by
         have:leftR N listed≤leftR N (listed.setIfInBounds i true)+1:=by
          unfold leftR
          have hcount:∀ m,((List.range m).filter fun j=>!listed.getD j false).length≤((List.range m).filter fun j=>!(listed.setIfInBounds i true).getD j false).length+(if i<m then 1 else 0):=by
           intro m
           induction m with
           | zero=>simp
           | succ m ihm =>
            rw [List.range_succ,List.filter_append,List.filter_append,List.length_append,List.length_append]
            by_cases hmi:m=i
            · subst hmi
              have h1:(List.filter (fun j=>!listed.getD j false) [m]).length≤1:=by
               exact Nat.le_trans (List.length_filter_le _ _) (by simp)
              rw [if_neg (by omega)] at ihm
              rw [if_pos (by omega)]
              omega
            · have h1:(List.filter (fun j=>!(listed.setIfInBounds i true).getD j false) [m])=(List.filter (fun j=>!listed.getD j false) [m]):=by
               simp only [List.filter_cons,List.filter_nil]
               rw [getD_set_ne false (Ne.symm hmi)]
              rw [h1]
              split at ihm<;>split<;>omega
          have:=hcount N
          split at this<;>omega
         omega
        have hex':leftR N (listed.setIfInBounds i true)=f':=Nat.le_antisymm hle hge
        refine ih f' (by omega) (listed.setIfInBounds i true) _ w' hinv hex' (hext _ _ _ _ (fun j hj=>?_) hJ')
        by_cases hji:j=i
        · subst hji
          have hs:j<listed.size:=by rw [inv.size,hsz]; omega
          simp [hs]
        · rw [getD_set_ne false (Ne.symm hji),show Nat.beq j i=false from Bool.eq_false_iff.2 (fun e=>hji (Nat.eq_of_beq_eq_true e)),Bool.or_false]
       unfold wpOp
       simp only [ho]
       by_cases hw:Region.wanted o (yielded l.toArray (fillR u (l.take N) 0 a0).tmps)=true
       · rw [if_pos hw]
         exact .inl (hS.1 hw _ next)
       · rw [if_neg hw]
         exact next undef w (hS.2 (by simpa using hw))
 unfold RegAny
 have inv0:HeadInv .any l.toArray N (Array.replicate l.toArray.size false) :=
  ⟨by simp,fun j oj _ hl=>(by rw [getD_replicate_false] at hl; cases hl),fun t _ ht=>_root_.Go.getD_in (by simpa using ht) (getD_replicate_false _ _)⟩
 have hleft0:leftR N (Array.replicate l.toArray.size false)=N:=by
  unfold leftR
  rw [List.filter_eq_self.2 (fun i _=>by rw [getD_replicate_false]; rfl),List.length_range]
 obtain ⟨u0,hid⟩:∃ u0,fillR u0 (l.take N) 0 a0=a0 :=
  ⟨fun i=>match ((l.take N)[i]?).bind (·.dst) with | some d=>a0.tmps.getD d undef | none=>undef,fillR_id _ 0 a0 _ hdis (fun i o d hi ho=>by simp [hi,ho])⟩
 have hk:=key N (Array.replicate l.toArray.size false) u0 { w0 with drawn:=w0.drawn+1 } inv0 hleft0 (hext _ _ _ _ (fun i _=>(getD_replicate_false _ _).symm) (h0 u0))
 rw [hid,show N+(l.length-N)=l.toArray.size by rw [hsz]; omega] at hk
 exact hk
def SlOk (β:Env) (a:Act) (sl:List (Nat × SV)) (n:Nat):Prop:=a.tmps.size=n∧∀ t,a.tmps.getD t undef=(look sl t).den β
def SlOf (q:Nat→Bool) (sl:List (Nat × SV)):Prop:=∀ t,(look sl t).of q=true
theorem look_put (sl:List (Nat × SV)) (d:Option Nat) (x:SV) (t:Nat):look (putS sl d x) t=if d=some t then x else look sl t:=by
 cases d with
 | none=>simp [putS]
 | some d =>
  simp only [putS,look,Option.some.injEq]
  rw [cond_eq_ite]
  simp only [Nat.beq_eq]
theorem SlOk.put {β:Env} {a:Act} {sl:List (Nat × SV)} {n:Nat} (h:SlOk β a sl n) {d:Option Nat} (hd:dstIn n d=true) (x:SV) {v:Value} (hv:v=x.den β):SlOk β (a.put d v) (putS sl d x) n:=by
 obtain ⟨h1,h2⟩:=h
 subst hv
 cases d with
 | none=>exact ⟨h1,h2⟩
 | some d =>
  simp only [dstIn,Nat.blt_eq] at hd
  refine ⟨by simp [Act.put,h1],fun t=>?_⟩
  rw [look_put]
  by_cases e:d=t
  · subst e
    simp [Act.put,h1,hd]
  · rw [if_neg (by simpa using e),← h2 t]
    simp [Act.put,Array.getElem?_setIfInBounds,e]
theorem SlOf.put {q:Nat→Bool} {sl:List (Nat × SV)} (h:SlOf q sl) (d:Option Nat) {x:SV} (hx:x.of q=true):SlOf q (putS sl d x):=fun t=>by
 rw [look_put]
 split
 · exact hx
 · exact h t
theorem SlOk.congr {β β':Env} {a:Act} {sl:List (Nat × SV)} {n:Nat} {q:Nat→Bool} (h:SlOk β a sl n) (ho:SlOf q sl) (hq:∀ k,q k=true→β k=β' k):SlOk β' a sl n :=
 ⟨h.1,fun t=>(h.2 t).trans (SV.den_congr hq _ (ho t))⟩
theorem SlOk.eval {β:Env} {a:Act} {sl:List (Nat × SV)} {n:Nat} (h:SlOk β a sl n):∀ y:Operand,a.eval y=evS β sl y
 | .tmp t=>h.2 t
 | .const _=>rfl
 | .global _=>rfl
 | .func _=>rfl
theorem SlOf.slot {q:Nat→Bool} {sl:List (Nat × SV)} (h:SlOf q sl):∀ y:Operand,slotOf q sl y
 | .tmp t=>h t
 | .const _=>trivial
 | .global _=>trivial
 | .func _=>trivial
theorem boolS_eq {x:SV} {b:Bool} (h:boolS x=some b):x=.one (.c (.b (.v (.bool b)))):=by
 unfold boolS at h
 split at h
 · rw [Option.some.inj h]
 · cases h
theorem eqB_eq {a b:Bool}:eqB a b=(some a==some b):=by cases a<;>cases b<;>rfl
theorem wanted_eq {ops:Array Oper} {sl:List (Nat × SV)} {o:Oper} {b:Bool} (h:wantedS ops sl o=some b) {tm:Array Value} (ht:∀ j d,o.guard.map (·.1)=some j→(ops[j]?).bind (·.dst)=some d→∃ β,tm.getD d undef=(look sl d).den β):Region.wanted o (yielded ops tm)=b:=by
 unfold wantedS at h
 unfold Region.wanted
 split at h
 · rename_i hg
   rw [hg]
   exact Option.some.inj h
 · rename_i j want hg
   rw [hg]
   dsimp only
   split at h
   · rename_i d hd
     split at h
     · rename_i c hc
       obtain rfl:=Option.some.inj h
       obtain ⟨β,hv⟩:=ht j d (by rw [hg]; rfl) hd
       rw [boolS_eq hc] at hv
       have:tm[d]?=some (.bool c):=by
        cases hx:tm[d]? with
        | none=>simp [hx] at hv; exact absurd hv (by unfold undef; intro e; cases e)
        | some y=>simp [hx] at hv; rw [hv]; rfl
       rw [eqB_eq]
       unfold yielded
       rw [hd]
       simp only [Option.bind_some,this]
     · rw [cond_eq_ite] at h
       split at h
       · rename_i hn
         obtain rfl:=Option.some.inj h
         obtain ⟨β,hv⟩:=ht j d (by rw [hg]; rfl) hd
         have hno:∃ xs,(look sl d).den β=.tuple xs:=by
          unfold noBool at hn
          split at hn
          · rename_i xs hx
            exact ⟨xs,by rw [hx]; rfl⟩
          · cases hn
         obtain ⟨xs,hno⟩:=hno
         rw [hno] at hv
         have hy:yielded ops tm j=none:=by
          unfold yielded
          rw [hd]
          simp only [Option.bind_some]
          cases hx:tm[d]? with
          | none=>rfl
          | some y=>simp [hx] at hv; rw [hv]
         rw [hy]
         cases want<;>rfl
       · cases h
   · cases h
structure Sync (P:Program) (m0 n:Nat) (B0:Bd) (w0:World) (c:Cf P) (β:Env) (a:Act) (w:World):Prop where
 good:Good B0 m0 w0 c.q (fun k=>c.ob[k]?) β w
 q:∀ k,c.q k=true↔k<c.ob.length
 sl:SlOk β a c.sl n
 of:SlOf c.q c.sl
 m0:m0≤c.ob.length∧B0.k≤c.ob.length
 defers:a.defers=B0.df
 uq:UniqAl c.ob
def Cf.good {P:Program} (c:Cf P):Prop:=∀ β,∀ f∈c.cs,Eqs.ok (f β)
def StepOk (P:Program) (m0:Nat) (q:Nat→Bool) (sl:List (Nat × SV)) (o:Oper) (ob:List Ob) (x:SV) (q':Nat→Bool) (ob':List Ob) (c:Env→Eqs):Prop :=
 (ob.length≤ob'.length∧(∀ k,q' k=true↔q k=true∨(ob.length≤k∧k<ob'.length))∧x.of q'=true) ∧
 ((∀ β,Eqs.ok (c β))→∀ (B0:Bd) (w0:World) (β:Env) (w:World) (a:Act),Good B0 m0 w0 q (fun k=>ob[k]?) β w→m0≤ob.length→(∀ y∈o.op.operands,a.eval y=evS β sl y∧slotOf q sl y)→noSelectB o.op=true →
  ∀ (K:Act→World→Prop) (Q:Exit→Act→World→Prop),(∀ β' w',(∀ k,¬(ob.length≤k∧k<ob'.length)→β' k=β k)→Good B0 m0 w0 q' (fun k=>ob'[k]?) β' w'→K (a.put o.dst (x.den β')) w')→o.wp P a w K Q)
theorem killA_uq {ob:List Ob} {i:Nat} (hu:UniqAl ob) (D0:Thing):UniqAl (killA i ob 0++[.al i D0]):=by
 have key:∀ (k r:Nat) (D:Thing),(killA i ob 0)[k]?=some (.al r D)→r≠i∧ob[k]?=some (.al r D):=by
  intro k r D h
  rw [killA_get,Nat.zero_add] at h
  cases ho:ob[k]? with
  | none=>rw [ho] at h; cases h
  | some x =>
   rw [ho] at h
   have h:=Option.some.inj h
   cases x<;>simp only [killX] at h<;>first | (cases h; done) | (rw [cond_eq_ite] at h; split at h<;>cases h; done) | skip
   rw [cond_eq_ite] at h
   split at h
   · cases h
   · rename_i hr
     obtain ⟨rfl,rfl⟩:=Ob.al.inj h
     exact ⟨fun e=>hr (by rw [e]; exact Nat.beq_refl _),rfl⟩
 intro k j r D D' h6 h7
 rw [List.getElem?_append] at h6 h7
 split at h6
 · split at h7
   · exact hu k j r D D' (key _ _ _ h6).2 (key _ _ _ h7).2
   · rw [List.getElem?_singleton] at h7
     split at h7
     · obtain ⟨e,_⟩:=Ob.al.inj (Option.some.inj h7)
       exact absurd e.symm (key _ _ _ h6).1
     · cases h7
 · rw [List.getElem?_singleton] at h6
   split at h6
   · obtain ⟨e,_⟩:=Ob.al.inj (Option.some.inj h6)
     split at h7
     · exact absurd e.symm (key _ _ _ h7).1
     · rw [List.getElem?_singleton] at h7
       split at h7
       · omega
       · cases h7
   · cases h6
theorem refS_ok {P:Program} {m0:Nat} {q:Nat→Bool} {sl:List (Nat × SV)} {o:Oper} {ob:List Ob} {ev:List (Ev P)} {x:SV} {q':Nat→Bool} {ob':List Ob} {ev':List (Ev P)} {c:Env→Eqs} (h:refS P m0 q sl o ob ev=.ok x q' ob' ev' c) (hq:∀ k,q k=true↔k<ob.length):StepOk P m0 q sl o ob x q' ob' c∧(UniqAl ob→UniqAl ob'):=by
 unfold refS at h
 split at h
 · rename_i fo xs ats f en args needs i j N n D ok ev1 hop _
   split at h
   · rename_i N' i' D0 hob hobj
     rw [cond_eq_ite] at h
     split at h
     · rename_i hb
       simp only [Bool.and_eq_true,Nat.beq_eq,Nat.ble_eq] at hb
       obtain ⟨⟨⟨rfl,rfl⟩,hmi⟩,rfl⟩:=hb
       injection h with h1 h2 h3 h4 h5
       subst h1 h2 h3
       have hlen:(killA i' ob 0++[Ob.al i' D]).length=ob.length+1:=by rw [List.length_append,killA_len]; rfl
       refine ⟨⟨⟨by omega,fun k=>by rw [hlen,addQ_iff]; constructor<;>rintro (a | a)<;>first | exact .inl a | exact .inr (by omega),by simp [SV.of,SC.of,Lf.of,Lf0.of,addQ]⟩,?_⟩,fun hu=>killA_uq hu D⟩
       intro hok B0 w0 β w a g hm hopd hns K Q hK
       rw [hlen] at hK
       have hc:=hok β
       rw [← h5] at hc
       dsimp only at hc
       split at hc
       · rename_i gg X Y hfo
         obtain ⟨e1,hc1⟩:=Eqs.cons_ok hc
         obtain ⟨e2,hc2⟩:=Eqs.cons_ok hc1
         injection e1 with e1
         injection e2 with e2
         injection e2 with e2
         have hneeds:=needs_hold g (fun k hk=>⟨hk,rfl⟩) needs hc2
         subst e1
         have hil:i'<ob.length:=(List.getElem?_eq_some_iff.1 hob).1
         have hexi:=(hq i').2 hil
         have hexj:=(hq j).2 (List.getElem?_eq_some_iff.1 hobj).1
         have hnn:q ob.length=false:=by
          cases hx:q ob.length with
          | false=>rfl
          | true=>have:=(hq _).1 hx; omega
         have hfo':a.eval fo=.func (.func gg) X Y:=by rw [(hopd fo (by rw [hop]; simp [Op.operands,Call.operands])).1]; exact hfo
         have hargs:xs.map a.eval=xs.map (evS β sl):=Array.map_congr_left fun y hy=>(hopd y (by rw [hop]; simp [Op.operands,Call.operands,hy])).1
         unfold Oper.wp
         rw [execOp_call hop hfo',hargs,e2,en]
         refine (ok β w hneeds (g.alb j i' D0 hexj hobj) (g.hold i' _ hexi hob).1.1 (g.hold i' _ hexi hob).1.2).mono ?_
         rintro e w' ⟨rfl,hD,hT⟩
         obtain ⟨β',hβ⟩:∃ β':Env,β'=fun k=>if k=ob.length then β i' else β k:=⟨_,rfl⟩
         have hβn:β' ob.length=β i':=by rw [hβ]; exact if_pos rfl
         have hβo:∀ k,k≠ob.length→β' k=β k:=fun k hk=>by rw [hβ]; exact if_neg hk
         have hβi:=hβo i' (by omega)
         have g':=g.congr (β':=β') fun k hk=>(hβo k (fun e=>by rw [e,hnn] at hk; cases hk)).symm
         have key:=g'.refill (n:=ob.length) hexi hob hmi hil hnn (by rw [hβn,hβi]) (by rw [hβi]; exact hT) (D:=D) (by rw [hβi]; exact hD) (fun k hk=>by
          rw [List.getElem?_eq_getElem ((hq k).1 hk)]; exact fun e=>by cases e)
         refine Eq.mp ?_ (hK β' w' (fun k hk=>hβo k (by omega)) (key.view (fun _=>rfl) (fun k hk=>?_)))
         · show K (a.put o.dst (.pointer ((β' ob.length).v 0))) w'=_
           rw [hβn,(g.hold i' _ hexi hob).1.1.2 0]
         · rcases addQ_iff.1 hk with hk | rfl
           · have:=(hq k).1 hk
             rw [updO_ne (by omega),List.getElem?_append_left (by rw [killA_len]; exact this),killA_get,Nat.zero_add]
           · rw [updO_eq,List.getElem?_append_right (by rw [killA_len]; omega),killA_len,Nat.sub_self]; rfl
       · exact (Eqs.no_ok hc).elim
     · cases h
   · rename_i cs t hob
     rw [cond_eq_ite] at h
     split at h
     · rename_i hb
       simp only [Bool.and_eq_true,Nat.beq_eq,Nat.ble_eq,Bool.not_eq_true'] at hb
       obtain ⟨⟨⟨⟨⟨rfl,hN⟩,htt⟩,rfl⟩,hmi⟩,hal⟩:=hb
       have htt:t≠278:=fun e=>by rw [e] at htt; exact absurd htt (by decide)
       have hal:=aloneB_spec hal
       injection h with h1 h2 h3 h4 h5
       subst h1 h2 h3
       have hil:j<ob.length:=(List.getElem?_eq_some_iff.1 hob).1
       have hlen:(ob.set j (.pl N)++[Ob.al j D]).length=ob.length+1:=by rw [List.length_append,List.length_set]; rfl
       have hset:∀ k,(ob.set j (.pl N))[k]?=if k=j then some (.pl N) else ob[k]?:=fun k=>by
        rw [List.getElem?_set]
        by_cases e:j=k
        · rw [if_pos e,if_pos hil,if_pos e.symm]
        · rw [if_neg e,if_neg fun e2=>e e2.symm]
       have hno:∀ (k:Nat) (D':Thing),(ob.set j (.pl N))[k]?≠some (.al j D'):=fun k D'=>by
        rw [hset]
        split
        · exact fun e=>by cases e
        · exact hal k D'
       refine ⟨⟨⟨by omega,fun k=>by rw [hlen,addQ_iff]; constructor<;>rintro (a | a)<;>first | exact .inl a | exact .inr (by omega),by simp [SV.of,SC.of,Lf.of,Lf0.of,addQ]⟩,?_⟩,fun hu=>?_⟩
       · intro hok B0 w0 β w a g hm hopd hns K Q hK
         rw [hlen] at hK
         have hc:=hok β
         rw [← h5] at hc
         dsimp only at hc
         split at hc
         · rename_i gg X Y hfo
           obtain ⟨e1,hc1⟩:=Eqs.cons_ok hc
           obtain ⟨e2,hc2⟩:=Eqs.cons_ok hc1
           injection e1 with e1
           injection e2 with e2
           injection e2 with e2
           have hneeds:=needs_hold g (fun k hk=>⟨hk,rfl⟩) needs hc2
           subst e1
           have hexi:=(hq j).2 hil
           have hnn:q ob.length=false:=by
            cases hx:q ob.length with
            | false=>rfl
            | true=>have:=(hq _).1 hx; omega
           have hfo':a.eval fo=.func (.func gg) X Y:=by rw [(hopd fo (by rw [hop]; simp [Op.operands,Call.operands])).1]; exact hfo
           have hargs:xs.map a.eval=xs.map (evS β sl):=Array.map_congr_left fun y hy=>(hopd y (by rw [hop]; simp [Op.operands,Call.operands,hy])).1
           obtain ⟨hone,hheap⟩:=(g.hold j _ hexi hob).1
           have hslot:Slot w (β j).b 0 N:=⟨_,_,hheap,htt,by simp; exact hN⟩
           unfold Oper.wp
           rw [execOp_call hop hfo',hargs,e2,en]
           refine (ok β w hneeds rfl hone hslot).mono ?_
           rintro e w' ⟨rfl,hD,hT⟩
           obtain ⟨β',hβ⟩:∃ β':Env,β'=fun k=>if k=ob.length then β j else β k:=⟨_,rfl⟩
           have hβn:β' ob.length=β j:=by rw [hβ]; exact if_pos rfl
           have hβo:∀ k,k≠ob.length→β' k=β k:=fun k hk=>by rw [hβ]; exact if_neg hk
           have hβi:=hβo j (by omega)
           have g':=(g.weak hob htt hN).congr (β':=β') fun k hk=>(hβo k (fun e=>by rw [e,hnn] at hk; cases hk)).symm
           have key:=g'.fill (n:=ob.length) hexi (updO_eq _ _ _) hmi hil hnn (by rw [hβn,hβi]) (fun k D' _ e=>by
            by_cases ek:k=j
            · rw [ek,updO_eq] at e; cases e
            · rw [updO_ne ek] at e; exact hal k D' e) (by rw [hβi]; exact hT) (D:=D) (by rw [hβi]; exact hD)
           refine Eq.mp ?_ (hK β' w' (fun k hk=>hβo k (by omega)) (key.view (fun _=>rfl) (fun k hk=>?_)))
           · show K (a.put o.dst (.pointer ((β' ob.length).v 0))) w'=_
             rw [hβn,hone.2 0]
           · rcases addQ_iff.1 hk with hk | rfl
             · have:=(hq k).1 hk
               rw [updO_ne (by omega),List.getElem?_append_left (by rw [List.length_set]; exact this),hset]
               unfold updO
               rfl
             · rw [updO_eq,List.getElem?_append_right (by rw [List.length_set]; omega),List.length_set,Nat.sub_self]; rfl
         · exact (Eqs.no_ok hc).elim
       · have hu2:UniqAl (ob.set j (.pl N)):=hu.set j rfl
         intro k k2 i D1 D2 h6 h7
         rw [List.getElem?_append] at h6 h7
         split at h6
         · split at h7
           · exact hu2 k k2 i D1 D2 h6 h7
           · rw [List.getElem?_singleton] at h7
             split at h7
             · obtain ⟨e,_⟩:=Ob.al.inj (Option.some.inj h7)
               subst e
               exact absurd h6 (hno k D1)
             · cases h7
         · rw [List.getElem?_singleton] at h6
           split at h6
           · obtain ⟨e,_⟩:=Ob.al.inj (Option.some.inj h6)
             subst e
             split at h7
             · exact absurd h7 (hno k2 D2)
             · rw [List.getElem?_singleton] at h7
               split at h7
               · omega
               · cases h7
           · cases h6
     · cases h
   · cases h
 · cases h
def muO:List Mu→Nat→Option Mu
 | [],_=>none
 | m::r,k=>if m.i=k then some m else muO r k
theorem muO_some {k:Nat} {m:Mu}:∀ {l:List Mu},muO l k=some m→m∈l∧m.i=k
 | x::r,h=>by
  unfold muO at h
  split at h
  · rename_i e
    obtain rfl:=Option.some.inj h
    exact ⟨List.mem_cons_self ..,e⟩
  · obtain ⟨h1,h2⟩:=muO_some h
    exact ⟨List.mem_cons_of_mem _ h1,h2⟩
theorem muO_none {k:Nat}:∀ {l:List Mu},muO l k=none→∀ m∈l,m.i≠k
 | [],_,m,hm=>by cases hm
 | x::r,h,m,hm=>by
  unfold muO at h
  split at h
  · cases h
  · rename_i e
    rcases List.mem_cons.1 hm with rfl | hm
    · exact e
    · exact muO_none h m hm
theorem setMs_len (ob:List Ob):∀ l:List Mu,(setMs ob l).length=ob.length
 | []=>rfl
 | m::r=>by unfold setMs; rw [List.length_set,setMs_len ob r]
theorem setMs_get (ob:List Ob) (k:Nat):∀ l:List Mu,(∀ m∈l,m.i<ob.length)→(setMs ob l)[k]?=match muO l k with | some m=>some m.b | none=>ob[k]?
 | [],_=>rfl
 | m::r,h=>by
  unfold setMs muO
  rw [List.getElem?_set,setMs_len]
  by_cases e:m.i=k
  · rw [if_pos e,if_pos e,if_pos (h m (List.mem_cons_self ..))]
  · rw [if_neg e,if_neg e]
    exact setMs_get ob k r fun x hx=>h x (List.mem_cons_of_mem _ hx)
theorem isLayB_iff {x:Option Ob} (h:isLayB x=true):∃ y p,x=some y∧y.layOf=some p:=by
 unfold isLayB at h
 split at h
 · exact ⟨_,_,rfl,rfl⟩
 · exact ⟨_,_,rfl,rfl⟩
 · cases h
theorem lay_ownB {x:Ob} {p:List Lf × TypeId} (h:x.layOf=some p):x.own=true:=by cases x<;>first | rfl | cases h
theorem setMs_uq {ob:List Ob} (h:UniqAl ob):∀ l:List Mu,(∀ m∈l,m.b.own=true)→UniqAl (setMs ob l)
 | [],_=>h
 | m::r,hl=>(setMs_uq h r fun x hx=>hl x (List.mem_cons_of_mem _ hx)).set m.i (hl m (List.mem_cons_self ..))
theorem needs_get {q:Nat→Bool} {ob:List Ob}:∀ {l:List (Nat × Ob)},Eqs.ok (needEqs q ob l)→∀ p∈l,∃ z,ob[p.1]?=some z∧z.plain p.2=p.2
 | [],_=>fun p hp=>by cases hp
 | (k,x)::r,h=>by
  simp only [needEqs] at h
  split at h
  · rename_i h1 h2
    obtain ⟨h3,h4⟩:=Eqs.cons_ok h
    injection h3 with h3
    intro p hp
    rcases List.mem_cons.1 hp with rfl | hp
    · exact ⟨_,h2,h3⟩
    · exact needs_get h4 p hp
  · exact (Eqs.no_ok h).elim
theorem mutS_ok {P:Program} {m0:Nat} {q:Nat→Bool} {sl:List (Nat × SV)} {o:Oper} {ob:List Ob} {ev:List (Ev P)} {x:SV} {q':Nat→Bool} {ob':List Ob} {ev':List (Ev P)} {c:Env→Eqs} (h:mutS P m0 q sl o ob ev=.ok x q' ob' ev' c) (hq:∀ k,q k=true↔k<ob.length):StepOk P m0 q sl o ob x q' ob' c∧(UniqAl ob→UniqAl ob'):=by
 unfold mutS at h
 split at h
 · rename_i fo xs ats f en args needs ms n res news ok ev1 hop _
   rw [cond_eq_ite] at h
   split at h
   · rename_i hb
     simp only [Bool.and_eq_true,Nat.beq_eq] at hb
     obtain ⟨rfl,hres,hms⟩:=hb
     injection h with h1 h2 h3 h4 h5
     subst h1 h2 h3
     have hmu:∀ m∈ms,m0≤m.i∧(∃ y p,ob[m.i]?=some y∧y.layOf=some p)∧muK m.a m.b=true∧m.b.of (rangeQ q ob.length (ob.length+news.length))=true:=fun m hm=>by
      have:=List.all_eq_true.1 hms m hm
      unfold muB at this
      simp only [Bool.and_eq_true,Nat.ble_eq] at this
      exact ⟨this.1,isLayB_iff this.2.1,this.2.2.1,this.2.2.2⟩
     have hmlt:∀ m∈ms,m.i<ob.length:=fun m hm=>by
      obtain ⟨y,p,e,_⟩:=(hmu m hm).2.1
      exact (List.getElem?_eq_some_iff.1 e).1
     have hlen:(setMs ob ms++news.map Thing.ob).length=ob.length+news.length:=by rw [List.length_append,setMs_len,List.length_map]
     refine ⟨⟨⟨by omega,fun k=>by rw [hlen,rangeQ_iff],hres⟩,?_⟩,fun hu=>(setMs_uq hu ms fun m hm=>by
      obtain ⟨p,hp⟩:=(muK_lay (hmu m hm).2.2.1).2
      exact lay_ownB hp).append fun y hy=>by obtain ⟨t,_,rfl⟩:=List.mem_map.1 hy; rfl⟩
     intro hok B0 w0 β w a g hm hopd hns K Q hK
     rw [hlen] at hK
     have hc:=hok β
     rw [← h5] at hc
     dsimp only at hc
     split at hc
     · rename_i gg X Y hfo
       obtain ⟨e1,hc1⟩:=Eqs.cons_ok hc
       obtain ⟨e2,hc2⟩:=Eqs.cons_ok hc1
       injection e1 with e1
       injection e2 with e2
       injection e2 with e2
       subst e1
       have hn1:Eqs.ok (needEqs q ob needs):=fun p hp=>hc2 p (List.mem_append.2 (.inl hp))
       have hn2:Eqs.ok (needEqs q ob (ms.map fun m=>(m.i,m.a))):=fun p hp=>hc2 p (List.mem_append.2 (.inr hp))
       have hneeds:=needs_hold g (fun k hk=>⟨hk,rfl⟩) needs hn1
       have hboxes:=needs_hold g (fun k hk=>⟨hk,rfl⟩) _ hn2
       have hfo':a.eval fo=.func (.func gg) X Y:=by rw [(hopd fo (by rw [hop]; simp [Op.operands,Call.operands])).1]; exact hfo
       have hargs:xs.map a.eval=xs.map (evS β sl):=Array.map_congr_left fun y hy=>(hopd y (by rw [hop]; simp [Op.operands,Call.operands,hy])).1
       unfold Oper.wp
       rw [execOp_call hop hfo',hargs,e2,en]
       have hb0:∀ m∈ms,m.a.holds β w (β m.i):=fun m hm=>hboxes (m.i,m.a) (List.mem_map.2 ⟨m,hm,rfl⟩)
       refine (ok β w hneeds hb0).mono ?_
       rintro e w' ⟨ys,hfr,rfl,hnew,hbox,hT⟩
       have hylen:=(newHold_get hnew).1
       obtain ⟨β',hβ⟩:∃ β':Env,β'=extE β ob.length ys:=⟨_,rfl⟩
       rw [← hβ] at hbox
       have hβo:∀ k,¬(ob.length≤k∧k<ob.length+news.length)→β' k=β k:=fun k hk=>by rw [hβ]; exact extE_out (by rw [hylen]; exact hk)
       have hqm:∀ m∈ms,q m.i=true:=fun m hm=>(hq m.i).2 (hmlt m hm)
       have hfree:∀ m∈ms,Free q (fun k=>ob[k]?) m.i:=fun m hm=>by
        obtain ⟨y,p,e,e2⟩:=(hmu m hm).2.1
        exact .inl ⟨_,e,_,e2⟩
       have hkeep:∀ k o,q k=true→ob[k]?=some o→muO ms k=none→o.holds β w' (β k):=fun k o hk hko hmo=>by
        have hh:=(g.hold k o hk hko).1
        by_cases hdd:o=.dead
        · rw [hdd]; exact trivial
        have hnf:∀ m∈ms,¬ (β k).F (β m.i).b:=fun m hm2=>g.ne m.i k (hqm m hm2) hk (fun e=>muO_none hmo m hm2 e.symm) (hmu m hm2).1 (hfree m hm2) (fun e=>hdd (Option.some.inj (hko.symm.trans e)))
        have hout:∀ b,(β k).F b→b<w.heap.size→w'.heap[b]?=w.heap[b]?:=fun b hF hlt=>hT.block b hlt fun hmem=>by
         obtain ⟨m,hm2,e⟩:=List.mem_map.1 hmem
         exact hnf m hm2 (by rw [e]; exact hF)
        have hst:∀ D:Thing,D.D w (β k)→D.D w' (β k):=fun D hd=>stable_touchL D.st hT (fun b hmem=>by
         obtain ⟨m,hm2,rfl⟩:=List.mem_map.1 hmem
         obtain ⟨cs,cs',t,c1,c2,c3,c4⟩:=muK_cells (hmu m hm2).2.2.1 (hb0 m hm2) (hbox m hm2)
         exact ⟨cs,cs',t,c1,c2,c3,c4,hnf m hm2⟩) hd
        cases o with
        | ow D u=>exact ⟨⟨hh.1.1,hh.1.2.1,by rw [hout _ hh.1.1 (heap_lt hh.1.2.2.choose_spec)]; exact hh.1.2.2⟩,hst D hh.2⟩
        | box cs t =>
         have hF:(β k).F (β k).b:=(hh.1.1 _).2 rfl
         simp only [Ob.holds] at hh ⊢
         rw [hout _ hF (heap_lt hh.2)]
         exact hh
        | row cs t n sz =>
         have hF:(β k).F (β k).b:=(hh.1.1 _).2 rfl
         simp only [Ob.holds] at hh ⊢
         rw [hout _ hF (heap_lt hh.2.choose_spec.1)]
         exact hh
        | pl n =>
         have hF:(β k).F (β k).b:=(hh.1.1 _).2 rfl
         obtain ⟨hh1,cs,t,hs1,hs2,hs3⟩:=hh
         exact ⟨hh1,cs,t,by rw [hout _ hF (heap_lt hs1)]; exact hs1,hs2,hs3⟩
        | th D=>exact hst D hh
        | al r D=>exact hst D hh
        | dead=>exact trivial
       have gR:Good B0 m0 w0 q (fun k=>match muO ms k with | some m=>some (rawO β' m.b) | none=>ob[k]?) β w':=by
        refine g.swap (fun k=>?_) (g.bel.trans ⟨hT.os,hT.tape,hT.output,hT.size,fun k hk hS=>hT.block k (Nat.lt_of_lt_of_le hk g.le) fun hmem=>?_⟩) hT.size (fun k o hk hko=>?_)
        · cases hmo:muO ms k with
          | none=>exact .inl rfl
          | some m =>
           obtain ⟨hm2,rfl⟩:=muO_some hmo
           obtain ⟨y,p,e,e2⟩:=(hmu m hm2).2.1
           obtain ⟨p2,hp2⟩:=(muK_lay (hmu m hm2).2.2.1).2
           obtain ⟨p3,hp3⟩:=rawO_lay (β':=β') hp2
           exact .inr ⟨y,p,_,p3,e,e2,rfl,hp3⟩
        · obtain ⟨m,hm2,rfl⟩:=List.mem_map.1 hmem
          exact (g.low m.i (hqm m hm2) (hmu m hm2).1 (hfree m hm2)).elim (fun a=>absurd hk (Nat.not_lt.2 a)) hS
        · cases hmo:muO ms k with
          | none=>rw [hmo] at hko; exact ⟨hkeep k o hk hko hmo,(g.hold k o hk hko).2⟩
          | some m =>
           rw [hmo] at hko
           obtain rfl:=Option.some.inj hko
           obtain ⟨hm2,rfl⟩:=muO_some hmo
           obtain ⟨p2,hp2⟩:=(muK_lay (hmu m hm2).2.2.1).2
           exact ⟨rawO_holds hp2 (hbox m hm2),rawO_of hp2⟩
       have gN:=gR.news2 (n:=ob.length) (fr:=fun c=>w.heap.size≤c) (fun k hk c hc=>Nat.not_le.2 (g.lt k hk c hc)) (fun c hc=>.inl (Nat.le_trans g.le hc)) hnew hm (fun y hy c hc=>by
        rcases hfr y hy c hc with h6 | ⟨p,hp,hth,h7⟩
        · exact .inl h6
        · obtain ⟨z,hz,hzp⟩:=needs_get hn1 p hp
          have hpq:q p.1=true:=(hq p.1).2 (List.getElem?_eq_some_iff.1 hz).1
          have hzt:z.isTh=true:=Ob.plain_th (y:=z) (x:=p.2) (by rw [hzp]; exact hth)
          have hmo:muO ms p.1=none:=by
           cases hmo:muO ms p.1 with
           | none=>rfl
           | some m =>
            obtain ⟨hm2,e⟩:=muO_some hmo
            obtain ⟨y,p2,e2,e3⟩:=(hmu m hm2).2.1
            rw [e,hz] at e2
            rw [Option.some.inj e2] at hzt
            cases y<;>first | (cases e3; done) | (cases hzt; done)
          exact .inr ⟨p.1,z,(List.getElem?_eq_some_iff.1 hz).1,hpq,by rw [hmo]; exact hz,.inl hzt,h7⟩) (fun k h6 h7=>by
        cases hx:q k with
        | false=>rfl
        | true=>have:=(hq k).1 hx; omega)
       rw [← hβ] at gN
       have gF:Good B0 m0 w0 (rangeQ q ob.length (ob.length+news.length)) (fun k=>if ob.length≤k∧k<ob.length+news.length then (news[k-ob.length]?).map Thing.ob else match muO ms k with | some m=>some m.b | none=>ob[k]?) β' w':=by
        refine gN.swap (fun k=>?_) gN.bel (Nat.le_refl _) (fun k o hk hko=>?_)
        · split
          · exact .inl rfl
          · cases hmo:muO ms k with
            | none=>exact .inl rfl
            | some m =>
             obtain ⟨hm2,rfl⟩:=muO_some hmo
             obtain ⟨p2,hp2⟩:=(muK_lay (hmu m hm2).2.2.1).2
             obtain ⟨p3,hp3⟩:=rawO_lay (β':=β') hp2
             exact .inr ⟨_,p3,_,p2,rfl,hp3,rfl,hp2⟩
        · by_cases hkn:ob.length≤k∧k<ob.length+news.length
          · refine gN.hold k o hk ?_
            rw [if_pos hkn] at hko ⊢
            exact hko
          · rw [if_neg hkn] at hko
            cases hmo:muO ms k with
            | none =>
             rw [hmo] at hko
             refine gN.hold k o hk ?_
             rw [if_neg hkn,hmo]
             exact hko
            | some m =>
             rw [hmo] at hko
             obtain rfl:=Option.some.inj hko
             obtain ⟨hm2,rfl⟩:=muO_some hmo
             refine ⟨?_,(hmu m hm2).2.2.2⟩
             rw [hβo _ hkn]
             exact hbox m hm2
       refine Eq.mp ?_ (hK β' w' hβo (gF.view (fun _=>rfl) (fun k hk=>?_)))
       · rw [hβ]
       · by_cases hkn:ob.length≤k∧k<ob.length+news.length
         · rw [if_pos hkn,List.getElem?_append_right (by rw [setMs_len]; exact hkn.1),setMs_len,List.getElem?_map]
         · rw [if_neg hkn]
           have hk2:k<ob.length:=by
            rcases rangeQ_iff.1 hk with h6 | h6
            · exact (hq k).1 h6
            · exact absurd h6 hkn
           rw [List.getElem?_append_left (by rw [setMs_len]; exact hk2),setMs_get ob k ms hmlt]
     · exact (Eqs.no_ok hc).elim
   · cases h
 · cases h
theorem ownS_ok {P:Program} {m0:Nat} {q:Nat→Bool} {sl:List (Nat × SV)} {o:Oper} {ob:List Ob} {ev:List (Ev P)} {x:SV} {q':Nat→Bool} {ob':List Ob} {ev':List (Ev P)} {c:Env→Eqs} (h:ownS P m0 q sl o ob ev=.ok x q' ob' ev' c) (hq:∀ k,q k=true↔k<ob.length):StepOk P m0 q sl o ob x q' ob' c∧(UniqAl ob→UniqAl ob'):=by
 unfold ownS at h
 split at h
 · rename_i fo xs ats f en args needs n row res news ok ev1 hop _
   rw [cond_eq_ite] at h
   split at h
   · rename_i hb
     simp only [Bool.and_eq_true,Nat.beq_eq] at hb
     obtain ⟨rfl,hlay,hrow,hres⟩:=hb
     obtain ⟨y0,pl0,e0,hpl⟩:=isLayB_iff hlay
     obtain rfl:=Option.some.inj e0
     injection h with h1 h2 h3 h4 h5
     subst h1 h2 h3
     have hlen:(ob++row::news.map Thing.ob).length=ob.length+1+news.length:=by rw [List.length_append,List.length_cons,List.length_map]; omega
     refine ⟨⟨⟨by omega,fun k=>by rw [hlen,rangeQ_iff],hres⟩,?_⟩,fun hu=>hu.append fun y hy=>by
      rcases List.mem_cons.1 hy with rfl | hy
      · exact lay_ownB hpl
      · obtain ⟨t,_,rfl⟩:=List.mem_map.1 hy; rfl⟩
     intro hok B0 w0 β w a g hm hopd hns K Q hK
     rw [hlen] at hK
     have hc:=hok β
     rw [← h5] at hc
     dsimp only at hc
     split at hc
     · rename_i gg X Y hfo
       obtain ⟨e1,hc1⟩:=Eqs.cons_ok hc
       obtain ⟨e2,hn1⟩:=Eqs.cons_ok hc1
       injection e1 with e1
       injection e2 with e2
       injection e2 with e2
       subst e1
       have hneeds:=needs_hold g (fun k hk=>⟨hk,rfl⟩) needs hn1
       have hfo':a.eval fo=.func (.func gg) X Y:=by rw [(hopd fo (by rw [hop]; simp [Op.operands,Call.operands])).1]; exact hfo
       have hargs:xs.map a.eval=xs.map (evS β sl):=Array.map_congr_left fun y hy=>(hopd y (by rw [hop]; simp [Op.operands,Call.operands,hy])).1
       unfold Oper.wp
       rw [execOp_call hop hfo',hargs,e2,en]
       refine (ok β w hneeds).mono ?_
       rintro e w' ⟨G,ys,⟨hG,hfr,hnF⟩,rfl,hrh,hnew,hB⟩
       have hylen:=(newHold_get hnew).1
       obtain ⟨β',hβ⟩:∃ β':Env,β'=extE β ob.length (G::ys):=⟨_,rfl⟩
       rw [← hβ] at hrh
       have hβo:∀ k,¬(ob.length≤k∧k<ob.length+1+news.length)→β' k=β k:=fun k hk=>by rw [hβ]; exact extE_out (by rw [List.length_cons,hylen]; omega)
       have hβn:β' ob.length=G:=by
        have:=extE_in (β:=β) (n:=ob.length) (xs:=G::ys) (i:=0) rfl
        rw [hβ]; simpa using this
       have hnn:q ob.length=false:=by
        cases hx:q ob.length with
        | false=>rfl
        | true=>have:=(hq _).1 hx; omega
       have hone:G.one:=by
        cases row with
        | box cs t=>exact hrh.1
        | row cs t n sz=>exact hrh.1
        | _=>cases hlay
       have hlt:G.b<w'.heap.size:=by
        cases row with
        | box cs t=>exact heap_lt hrh.2
        | row cs t n sz=>exact heap_lt hrh.2.choose_spec.1
        | _=>cases hlay
       have g1:=g.congr (β':=β') fun k hk=>(hβo k (by have:=(hq k).1 hk; omega)).symm
       have g2:=g1.push (n:=ob.length) hB hnn (by rw [hβn]; exact hone) (by rw [hβn]; exact hG) (by rw [hβn]; exact hlt) (x:=rawO β' row) (by rw [hβn]; exact rawO_holds hpl hrh) (rawO_of hpl) (rawO_own hpl)
       have hee:extE β' (ob.length+1) ys=β':=by
        funext k
        by_cases hk:ob.length+1≤k∧k<ob.length+1+ys.length
        · have h6:k-(ob.length+1)<ys.length:=by omega
          have h7:=extE_in (β:=β') (n:=ob.length+1) (List.getElem?_eq_getElem h6)
          have h8:=extE_in (β:=β) (n:=ob.length) (xs:=G::ys) (i:=k-(ob.length+1)+1) (x:=ys[k-(ob.length+1)]) (by simp [h6])
          rw [show ob.length+1+(k-(ob.length+1))=k by omega] at h7
          rw [show ob.length+(k-(ob.length+1)+1)=k by omega] at h8
          rw [h7,hβ,h8]
        · exact extE_out hk
       have g3:=g2.news2 (n:=ob.length+1) (fr:=fun c=>w.heap.size≤c∧c≠G.b) (l:=news) (xs:=ys) (fun k hk c hc hfc=>by
        rcases addQ_iff.1 hk with hk | rfl
        · rw [hβo k (by have:=(hq k).1 hk; omega)] at hc
          exact absurd hfc.1 (Nat.not_le.2 (g.lt k hk c hc))
        · rw [hβn] at hc
          exact hfc.2 ((hone.1 c).1 hc)) (fun c hc=>.inl (Nat.le_trans g.le hc.1)) hnew (by omega) (fun y hy c hc=>by
        rcases hfr y hy c hc with h6 | ⟨p,hp,hth,h7⟩
        · exact .inl ⟨h6,fun e=>hnF y hy (e▸hc)⟩
        · obtain ⟨z,hz,hzp⟩:=needs_get hn1 p hp
          have hlt2:=(List.getElem?_eq_some_iff.1 hz).1
          have hpq:q p.1=true:=(hq p.1).2 hlt2
          have hzt:z.isTh=true:=Ob.plain_th (y:=z) (x:=p.2) (by rw [hzp]; exact hth)
          exact .inr ⟨p.1,z,by omega,addQ_iff.2 (.inl hpq),by rw [updO_ne (by omega)]; exact hz,.inl hzt,by rw [hβo p.1 (by omega)]; exact h7⟩) (fun k h6 h7=>by
        cases hx:addQ q ob.length k with
        | false=>rfl
        | true =>
         rcases addQ_iff.1 hx with hx | hx
         · have:=(hq k).1 hx; omega
         · omega)
       rw [hee] at g3
       have hrange:∀ k,rangeQ (addQ q ob.length) (ob.length+1) (ob.length+1+news.length) k=rangeQ q ob.length (ob.length+1+news.length) k:=fun k=>by
        rw [Bool.eq_iff_iff,rangeQ_iff,rangeQ_iff,addQ_iff]
        constructor
        · rintro ((h6 | h6) | h6)
          · exact .inl h6
          · exact .inr (by omega)
          · exact .inr (by omega)
        · rintro (h6 | h6)
          · exact .inl (.inl h6)
          · by_cases h7:k=ob.length
            · exact .inl (.inr h7)
            · exact .inr (by omega)
       have hget:∀ k,k<ob.length+1+news.length→(if ob.length+1≤k∧k<ob.length+1+news.length then (news[k-(ob.length+1)]?).map Thing.ob else updO (fun k=>ob[k]?) ob.length row k)=(ob++row::news.map Thing.ob)[k]?:=fun k hk=>by
        by_cases h6:ob.length+1≤k
        · rw [if_pos ⟨h6,hk⟩,List.getElem?_append_right (by omega),show k-ob.length=(k-(ob.length+1))+1 by omega,List.getElem?_cons_succ,List.getElem?_map]
        · rw [if_neg (fun h=>h6 h.1)]
          by_cases h7:k=ob.length
          · rw [h7,updO_eq,List.getElem?_append_right (Nat.le_refl _),Nat.sub_self]; rfl
          · rw [updO_ne h7,List.getElem?_append_left (by omega)]
       have gF:Good B0 m0 w0 (rangeQ q ob.length (ob.length+1+news.length)) (fun k=>(ob++row::news.map Thing.ob)[k]?) β' w':=by
        have g4:Good B0 m0 w0 (rangeQ (addQ q ob.length) (ob.length+1) (ob.length+1+news.length)) (fun k=>if ob.length+1≤k∧k<ob.length+1+news.length then (news[k-(ob.length+1)]?).map Thing.ob else updO (fun k=>ob[k]?) ob.length row k) β' w':=by
         refine g3.swap (fun k=>?_) g3.bel (Nat.le_refl _) (fun k o hk hko=>?_)
         · by_cases h6:ob.length+1≤k∧k<ob.length+1+news.length
           · rw [if_pos h6,if_pos h6]; exact .inl rfl
           · rw [if_neg h6,if_neg h6]
             by_cases h7:k=ob.length
             · obtain ⟨p3,hp3⟩:=rawO_lay (β':=β') hpl
               exact .inr ⟨_,p3,row,_,by rw [h7,updO_eq],hp3,by rw [h7,updO_eq],hpl⟩
             · rw [updO_ne h7,updO_ne h7]; exact .inl rfl
         · by_cases h7:k=ob.length
           · rw [if_neg (by omega),h7,updO_eq] at hko
             obtain rfl:=Option.some.inj hko
             rw [h7,hβn]
             refine ⟨hrh,Ob.of_mono (fun k hk=>?_) _ hrow⟩
             rw [hrange]; exact hk
           · refine g3.hold k o hk ?_
             by_cases h6:ob.length+1≤k∧k<ob.length+1+news.length
             · rw [if_pos h6] at hko ⊢; exact hko
             · rw [if_neg h6] at hko ⊢; rw [updO_ne h7] at hko ⊢; exact hko
        refine g4.view (fun k=>(hrange k).symm) (fun k hk=>?_)
        rw [hget]
        rw [hrange] at hk
        rcases rangeQ_iff.1 hk with h6 | h6
        · have:=(hq k).1 h6; omega
        · exact h6.2
       refine Eq.mp ?_ (hK β' w' hβo gF)
       rw [hβ]
     · exact (Eqs.no_ok hc).elim
   · cases h
 · cases h
theorem findA_ok {i:Nat}:∀ {l:List Ob} {n j:Nat},findA i l n=some j→n≤j∧∃ D,l[j-n]?=some (.al i D)
 | [],n,j,h=>by cases h
 | x::l,n,j,h=>by
  have rec_:findA i l (n+1)=some j→n≤j∧∃ D,(x::l)[j-n]?=some (.al i D):=fun h=>by
   obtain ⟨h1,D,h2⟩:=findA_ok h
   refine ⟨by omega,D,?_⟩
   rw [show j-n=(j-(n+1))+1 by omega,List.getElem?_cons_succ]
   exact h2
  cases x with
  | al r D =>
   unfold findA at h
   rw [cond_eq_ite] at h
   split at h
   · rename_i hb
     obtain rfl:=Option.some.inj h
     rw [Nat.beq_eq] at hb
     subst hb
     exact ⟨Nat.le_refl _,D,by rw [Nat.sub_self]; rfl⟩
   · exact rec_ h
  | box cs t=>exact rec_ h
  | th D=>exact rec_ h
  | pl m=>exact rec_ h
  | row cs t n sz=>exact rec_ h
  | ow D t=>exact rec_ h
  | dead=>exact rec_ h
theorem mvS_ok {P:Program} {m0:Nat} {q:Nat→Bool} {sl:List (Nat × SV)} {o:Oper} {ob:List Ob} {j:Nat} (h:mvS q sl o ob=some j) (hq:∀ k,q k=true↔k<ob.length):StepOk P m0 q sl o ob (.one (.c (.b (.z j 0)))) q ob (fun _=>[]):=by
 unfold mvS at h
 split at h
 · rename_i t hop
   split at h
   · rename_i i hsl
     split at h
     · rename_i m hob
       split at h
       · rename_i j' hf
         rw [cond_eq_ite] at h
         split at h
         · rename_i hqj
           obtain rfl:=Option.some.inj h
           rw [Bool.and_eq_true] at hqj
           obtain ⟨_,D,hal⟩:=findA_ok hf
           rw [Nat.sub_zero] at hal
           refine ⟨⟨Nat.le_refl _,fun k=>⟨.inl,fun a=>a.elim id fun a=>by omega⟩,by simp only [SV.of,SC.of,Lf.of,Lf0.of]; exact hqj.1⟩,?_⟩
           intro hok B0 w0 β w a g hm hopd hns K Q hK
           have h1:=(hopd (.tmp t) (by rw [hop]; simp [Op.operands])).1
           have h2:evS β sl (.tmp t)=.pointer (some ⟨(β i).b,0,none⟩):=by
            show (look sl t).den β=_
            rw [hsl]; rfl
           have hone:=(g.hold i _ hqj.2 hob).1.1
           have hval:(SV.one (.c (.b (.z j' 0)))).den β=.pointer (some ⟨(β i).b,0,none⟩):=by
            show Value.pointer ((β j').v 0)=_
            rw [g.alb j' i D hqj.1 hal,hone.2 0]
           unfold Oper.wp
           have hrun:(execOp a.eval o).run P w=.ok (.value (a.eval (.tmp t))) w:=by
            unfold execOp
            rw [hop]
            rfl
           rw [hrun,h1,h2,← hval]
           exact hK β w (fun _ _=>rfl) g
         · cases h
       · cases h
     · cases h
   · cases h
 · cases h
theorem ghV_eq {q:Nat→Bool} {y x:SV} (h:ghV q y=some x):y=x∧x.of q=true:=by
 unfold ghV at h
 split at h
 · rename_i k i
   rw [cond_eq_ite] at h
   split at h
   · rename_i hq
     obtain rfl:=Option.some.inj h
     exact ⟨rfl,hq⟩
   · cases h
 · cases h
theorem ghS_ok {P:Program} {m0:Nat} {q:Nat→Bool} {sl:List (Nat × SV)} {o:Oper} {ob:List Ob} {x:SV} (h:ghS q sl o=some x):StepOk P m0 q sl o ob x q ob (fun _=>[]):=by
 have key:∀ t,(o.op=.move (.tmp t)∨o.op=.assign (.tmp t))→ghV q (look sl t)=some x→StepOk P m0 q sl o ob x q ob (fun _=>[]):=fun t hop hv=>by
  obtain ⟨e,hx⟩:=ghV_eq hv
  refine ⟨⟨Nat.le_refl _,fun k=>⟨.inl,fun a=>a.elim id fun a=>by omega⟩,hx⟩,?_⟩
  intro hok B0 w0 β w a g hm hopd hns K Q hK
  have h1:=(hopd (.tmp t) (by rcases hop with hop | hop<;>rw [hop]<;>simp [Op.operands])).1
  have h2:evS β sl (.tmp t)=x.den β:=by
   show (look sl t).den β=_
   rw [e]
  unfold Oper.wp
  have hrun:(execOp a.eval o).run P w=.ok (.value (a.eval (.tmp t))) w:=by
   unfold execOp
   rcases hop with hop | hop<;>rw [hop]<;>rfl
  rw [hrun,h1,h2]
  exact hK β w (fun _ _=>rfl) g
 unfold ghS at h
 split at h
 · rename_i t hop
   exact key t (.inl hop) h
 · rename_i t hop
   exact key t (.inr hop) h
 · cases h
theorem isLayO_iff {x:Option Ob} (h:isLayO x=true):∃ y p,x=some y∧y.layOf=some p:=by
 unfold isLayO at h
 split at h
 · exact ⟨_,_,rfl,rfl⟩
 · exact ⟨_,_,rfl,rfl⟩
 · exact ⟨_,_,rfl,rfl⟩
 · cases h
theorem isOwO_iff {x:Option Ob} (h:isOwO x=true):∃ D t,x=some (.ow D t):=by
 unfold isOwO at h
 split at h
 · exact ⟨_,_,rfl⟩
 · cases h
theorem ow_good {B0:Bd} {m0:Nat} {w0:World} {q:Nat→Bool} {ob:List Ob} {β:Env} {w w':World} (g:Good B0 m0 w0 q (fun k=>ob[k]?) β w) (hq:∀ k,q k=true↔k<ob.length) {needs:List (Nat × Ob)} (hn1:Eqs.ok (needEqs q ob needs)) {old:Option (Nat × Ob)}
  (hold:oldB m0 ob old=true) {row:Ob} (hlay:isLayO (some row)=true) (hrow:row.of (rangeQ q ob.length (ob.length+1))=true) {G:Pl} (hrh0:row.holds (extE β ob.length [G]) w' G) (hgrow:Grow β w w' old G) (hF:owF β needs old G) :
  Good B0 m0 w0 (rangeQ q ob.length (ob.length+1)) (fun k=>(killO ob (old.map Prod.fst)++[row])[k]?) (extE β ob.length [G]) w':=by
 obtain ⟨y0,pl0,e0,hpl⟩:=isLayO_iff hlay
 obtain rfl:=Option.some.inj e0
 have holdi:∀ p,old=some p→m0≤p.1∧∃ y pl,ob[p.1]?=some y∧y.layOf=some pl:=fun p hp=>by
  rw [hp] at hold
  unfold oldB at hold
  rw [Bool.and_eq_true,Nat.ble_eq] at hold
  exact ⟨hold.1,isLayO_iff hold.2⟩
 have hoi:∀ i,old.map Prod.fst=some i→q i=true∧m0≤i∧∃ y pl,ob[i]?=some y∧y.layOf=some pl:=fun i hi=>by
  cases ho:old with
  | none=>rw [ho] at hi; cases hi
  | some p =>
   rw [ho] at hi
   obtain rfl:=Option.some.inj hi
   obtain ⟨a,y,pl,b,c⟩:=holdi p ho
   exact ⟨(hq _).2 (List.getElem?_eq_some_iff.1 b).1,a,y,pl,b,c⟩
 have hkill:∀ k,(killO ob (old.map Prod.fst))[k]?=if old.map Prod.fst=some k then some .dead else ob[k]?:=fun k=>by
  cases ho:old with
  | none=>rfl
  | some p =>
   show (ob.set p.1 .dead)[k]?=if some p.1=some k then some .dead else ob[k]?
   have hlt:p.1<ob.length:=by
    obtain ⟨_,y,pl,b,_⟩:=holdi p ho
    exact (List.getElem?_eq_some_iff.1 b).1
   rw [List.getElem?_set]
   by_cases e:p.1=k
   · rw [if_pos e,if_pos hlt,if_pos (by rw [e])]
   · rw [if_neg e,if_neg fun h=>e (Option.some.inj h)]
 obtain ⟨β',hβ⟩:∃ β':Env,β'=extE β ob.length [G]:=⟨_,rfl⟩
 have hrh:=hrh0
 rw [← hβ] at hrh
 rw [← hβ]
 have hβo:∀ k,¬(ob.length≤k∧k<ob.length+1)→β' k=β k:=fun k hk=>by rw [hβ]; exact extE_out (by simpa using hk)
 have hβn:β' ob.length=G:=by
  have:=extE_in (β:=β) (n:=ob.length) (xs:=[G]) (i:=0) rfl
  rw [hβ]; simpa using this
 have hnn:q ob.length=false:=by
  cases hx:q ob.length with
  | false=>rfl
  | true=>have:=(hq _).1 hx; omega
 have hql:∀ k,q k=true→k<ob.length:=fun k hk=>(hq k).1 hk
 have g1:=g.congr (β':=β') fun k hk=>(hβo k (by have:=hql k hk; omega)).symm
 have hself:=lay_self hpl hrh
 have hsz:w.heap.size≤w'.heap.size:=by
  rcases hgrow with ⟨_,hB⟩ | ⟨p,_,_,N,_,hT⟩
  · exact hB.size
  · exact hT.size
 have hltG:G.b<w'.heap.size:=by
  cases row with
  | box cs t=>exact heap_lt hrh.2
  | row cs t n sz=>exact heap_lt hrh.2.choose_spec.1
  | ow D t=>exact heap_lt hrh.1.2.2.choose_spec
  | _=>cases hlay
 have hFlt:∀ c,G.F c→c<w'.heap.size:=fun c hc=>by
  rcases hF c hc with rfl | ⟨p,hp,h6⟩ | ⟨p,hp,hth,h6⟩
  · exact hltG
  · have hi:=hoi p.1 (by rw [hp]; rfl)
    exact Nat.lt_of_lt_of_le (g.lt p.1 hi.1 c h6) hsz
  · obtain ⟨z,hz,hzp⟩:=needs_get hn1 p hp
    exact Nat.lt_of_lt_of_le (g.lt p.1 ((hq _).2 (List.getElem?_eq_some_iff.1 hz).1) c h6) hsz
 have g2:=g1.repl (n:=ob.length) (w':=w') (obj1:=fun k=>(killO ob (old.map Prod.fst))[k]?) (old.map Prod.fst) (fun i hi=>hoi i hi) (fun k hk=>by rw [hkill k,if_neg hk]) (fun k hk=>by rw [hkill k,if_pos hk]) hnn hql (by
  rw [hβn]
  rcases hgrow with ⟨h6,hB⟩ | ⟨p,hp,h6,h7⟩
  · exact .inl ⟨h6,hB⟩
  · refine .inr ⟨p.1,by rw [hp]; rfl,?_,h7⟩
    have hi:=hoi p.1 (by rw [hp]; rfl)
    rw [hβo p.1 (by have:=hql _ hi.1; omega)]
    exact h6) (by rw [hβn]; exact hself) (by rw [hβn]; exact hFlt) (fun c hc=>by
  rw [hβn] at hc ⊢
  rcases hF c hc with h6 | ⟨p,hp,h6⟩ | ⟨p,hp,hth,h6⟩
  · exact .inl h6
  · have hi:=hoi p.1 (by rw [hp]; rfl)
    exact .inr (.inl ⟨p.1,by rw [hp]; rfl,by rw [hβo p.1 (by have:=hql _ hi.1; omega)]; exact h6⟩)
  · obtain ⟨z,hz,hzp⟩:=needs_get hn1 p hp
    have hlt2:=(List.getElem?_eq_some_iff.1 hz).1
    have hzt:z.isTh=true:=Ob.plain_th (y:=z) (x:=p.2) (by rw [hzp]; exact hth)
    exact .inr (.inr ⟨p.1,z,(hq _).2 hlt2,hz,hzt,by rw [hβo p.1 (by omega)]; exact h6⟩)) (x:=row) (by rw [hβn]; exact hrh) (by
  have:rangeQ q ob.length (ob.length+1)=addQ q ob.length:=by
   funext k
   rw [Bool.eq_iff_iff,rangeQ_iff,addQ_iff]
   constructor
   · rintro (h6 | h6)
     · exact .inl h6
     · exact .inr (by omega)
   · rintro (h6 | h6)
     · exact .inl h6
     · exact .inr (by omega)
  rw [← this]
  exact hrow) hpl
 refine g2.view (fun k=>?_) fun k hk=>?_
 · rw [Bool.eq_iff_iff,rangeQ_iff,addQ_iff]
   constructor<;>rintro (h6 | h6)<;>first | exact .inl h6 | exact .inr (by omega)
 · rcases addQ_iff.1 hk with hk | rfl
   · have:=hql k hk
     rw [updO_ne (by omega),List.getElem?_append_left (by rw [killO_len]; exact this)]
   · rw [updO_eq,List.getElem?_append_right (by rw [killO_len]; omega),killO_len,Nat.sub_self]
     rfl
theorem updS_ok {P:Program} {m0:Nat} {q:Nat→Bool} {sl:List (Nat × SV)} {o:Oper} {ob:List Ob} {ev:List (Ev P)} {x:SV} {q':Nat→Bool} {ob':List Ob} {ev':List (Ev P)} {c:Env→Eqs} (h:updS P m0 q sl o ob ev=.ok x q' ob' ev' c) (hq:∀ k,q k=true↔k<ob.length):StepOk P m0 q sl o ob x q' ob' c∧(UniqAl ob→UniqAl ob'):=by
 unfold updS at h
 split at h
 · rename_i d op' xs needs old n row res ok ev1 hev
   rw [cond_eq_ite] at h
   split at h
   · rename_i hb
     simp only [Bool.and_eq_true,Nat.beq_eq] at hb
     obtain ⟨hd,rfl,hlay,hold,hrow,hres⟩:=hb
     obtain ⟨y0,pl0,e0,hpl⟩:=isLayO_iff hlay
     obtain rfl:=Option.some.inj e0
     injection h with h1 h2 h3 h4 h5
     subst h1 h2 h3
     have hlen:(killO ob (old.map Prod.fst)++[row]).length=ob.length+1:=by rw [List.length_append,killO_len]; rfl
     have holdi:∀ p,old=some p→m0≤p.1∧∃ y pl,ob[p.1]?=some y∧y.layOf=some pl:=fun p hp=>by
      rw [hp] at hold
      unfold oldB at hold
      rw [Bool.and_eq_true,Nat.ble_eq] at hold
      exact ⟨hold.1,isLayO_iff hold.2⟩
     have hoi:∀ i,old.map Prod.fst=some i→q i=true∧m0≤i∧∃ y pl,ob[i]?=some y∧y.layOf=some pl:=fun i hi=>by
      cases ho:old with
      | none=>rw [ho] at hi; cases hi
      | some p =>
       rw [ho] at hi
       obtain rfl:=Option.some.inj hi
       obtain ⟨a,y,pl,b,c⟩:=holdi p ho
       exact ⟨(hq _).2 (List.getElem?_eq_some_iff.1 b).1,a,y,pl,b,c⟩
     have hkill:∀ k,(killO ob (old.map Prod.fst))[k]?=if old.map Prod.fst=some k then some .dead else ob[k]?:=fun k=>by
      cases ho:old with
      | none=>rfl
      | some p =>
       show (ob.set p.1 .dead)[k]?=if some p.1=some k then some .dead else ob[k]?
       have hlt:p.1<ob.length:=by
        obtain ⟨_,y,pl,b,_⟩:=holdi p ho
        exact (List.getElem?_eq_some_iff.1 b).1
       rw [List.getElem?_set]
       by_cases e:p.1=k
       · rw [if_pos e,if_pos hlt,if_pos (by rw [e])]
       · rw [if_neg e,if_neg fun h=>e (Option.some.inj h)]
     refine ⟨⟨⟨by omega,fun k=>by rw [hlen,rangeQ_iff],?_⟩,?_⟩,fun hu=>UniqAl.append ?_ fun y hy=>by
      obtain rfl:=List.mem_singleton.1 hy
      exact lay_own hpl⟩
     · cases d with
       | none=>rfl
       | some d=>exact hres
     · intro hok B0 w0 β w a g hm hopd hns K Q hK
       rw [hlen] at hK
       have hc:=hok β
       rw [← h5] at hc
       obtain ⟨e1,hc1⟩:=Eqs.cons_ok hc
       obtain ⟨e2,hc2⟩:=Eqs.cons_ok hc1
       injection e1 with e1
       injection e2 with e2
       injection e2 with e2
       have hn1:Eqs.ok (needEqs q ob needs):=fun p hp=>hc2 p (List.mem_append.2 (.inl hp))
       have hn2:Eqs.ok (needEqs q ob old.toList):=fun p hp=>hc2 p (List.mem_append.2 (.inr hp))
       have hneeds:=needs_hold g (fun k hk=>⟨hk,rfl⟩) needs hn1
       have holds:=needs_hold g (fun k hk=>⟨hk,rfl⟩) _ hn2
       have hold':oldHolds β w old:=by
        cases ho:old with
        | none=>trivial
        | some p=>exact holds p (by rw [ho]; exact List.mem_singleton.2 rfl)
       have hargs:op'.operands.toList.map a.eval=xs β:=by
        rw [← e1]
        have h6:o.op.operands.toList.map a.eval=o.op.operands.toList.map (evS β sl):=List.map_congr_left fun y hy=>(hopd y (by simpa using hy)).1
        rw [h6,← Array.toList_map,e2]
       obtain ⟨G,w',hrun,hrh,hgrow,hF⟩:=ok β w hneeds hold' a.eval o e1 hargs
       have hgood:=ow_good g hq hn1 hold hlay hrow hrh hgrow hF
       have hβo:∀ k,¬(ob.length≤k∧k<ob.length+1)→extE β ob.length [G] k=β k:=fun k hk=>extE_out (by simpa using hk)
       unfold Oper.wp
       rw [hrun]
       cases d with
       | none=>exact hK _ w' hβo hgood
       | some d=>exact hK _ w' hβo hgood
     · cases ho:old with
       | none=>exact hu
       | some p=>exact hu.sets p.1 fun j D e=>by cases e
   · cases h
 · rename_i f en args needs n row res ok ev1 hev
   split at h
   · rename_i fo xs ats hop
     rw [cond_eq_ite] at h
     split at h
     · rename_i hb
       simp only [Bool.and_eq_true,Nat.beq_eq] at hb
       obtain ⟨rfl,hlay,hrow,hres⟩:=hb
       obtain ⟨y0,pl0,e0,hpl⟩:=isLayO_iff hlay
       obtain rfl:=Option.some.inj e0
       injection h with h1 h2 h3 h4 h5
       subst h1 h2 h3
       have hlen:(ob++[row]).length=ob.length+1:=by rw [List.length_append]; rfl
       refine ⟨⟨⟨by omega,fun k=>by rw [hlen,rangeQ_iff],hres⟩,?_⟩,fun hu=>hu.append fun y hy=>by
        obtain rfl:=List.mem_singleton.1 hy
        exact lay_own hpl⟩
       intro hok B0 w0 β w a g hm hopd hns K Q hK
       rw [hlen] at hK
       have hc:=hok β
       rw [← h5] at hc
       dsimp only at hc
       split at hc
       · rename_i gg X Y hfo
         obtain ⟨e1,hc1⟩:=Eqs.cons_ok hc
         obtain ⟨e2,hn1⟩:=Eqs.cons_ok hc1
         injection e1 with e1
         injection e2 with e2
         injection e2 with e2
         subst e1
         have hneeds:=needs_hold g (fun k hk=>⟨hk,rfl⟩) needs hn1
         have hfo':a.eval fo=.func (.func gg) X Y:=by rw [(hopd fo (by rw [hop]; simp [Op.operands,Call.operands])).1]; exact hfo
         have hargs:xs.map a.eval=xs.map (evS β sl):=Array.map_congr_left fun y hy=>(hopd y (by rw [hop]; simp [Op.operands,Call.operands,hy])).1
         unfold Oper.wp
         rw [execOp_call hop hfo',hargs,e2,en]
         refine (ok β w hneeds).mono ?_
         rintro e w' ⟨G,rfl,hrh,hgr,hF⟩
         have hgood:=ow_good (old:=none) g hq hn1 rfl hlay hrow hrh (.inl hgr) hF
         have hβo:∀ k,¬(ob.length≤k∧k<ob.length+1)→extE β ob.length [G] k=β k:=fun k hk=>extE_out (by simpa using hk)
         exact hK _ w' hβo hgood
       · exact (Eqs.no_ok hc).elim
     · cases h
   · cases h
 · rename_i op' xs needs i a0 b ok ev1 hev
   rw [cond_eq_ite] at h
   split at h
   · rename_i hb
     simp only [Bool.and_eq_true,Nat.ble_eq] at hb
     obtain ⟨hd,hm0,hi,hbo⟩:=hb
     obtain ⟨D,t,hi⟩:=isOwO_iff hi
     obtain ⟨D',t',hb'⟩:=isOwO_iff hbo
     obtain rfl:=Option.some.inj hb'
     injection h with h1 h2 h3 h4 h5
     subst h1 h2 h3
     have hlt:=(List.getElem?_eq_some_iff.1 hi).1
     refine ⟨⟨⟨by rw [List.length_set]; exact Nat.le_refl _,fun k=>by rw [List.length_set]; exact ⟨fun h=>.inl h,fun h=>h.elim id fun h=>by omega⟩,rfl⟩,?_⟩,fun hu=>hu.sets i fun j D e=>by cases e⟩
     intro hok B0 w0 β w a g hm hopd hns K Q hK
     have hc:=hok β
     rw [← h5] at hc
     obtain ⟨e1,hc1⟩:=Eqs.cons_ok hc
     obtain ⟨e2,hc2⟩:=Eqs.cons_ok hc1
     injection e1 with e1
     injection e2 with e2
     injection e2 with e2
     have hn1:Eqs.ok (needEqs q ob needs):=fun p hp=>hc2 p (List.mem_append.2 (.inl hp))
     have hn2:Eqs.ok (needEqs q ob [(i,a0)]):=fun p hp=>hc2 p (List.mem_append.2 (.inr hp))
     have hneeds:=needs_hold g (fun k hk=>⟨hk,rfl⟩) needs hn1
     have hold:=needs_hold g (fun k hk=>⟨hk,rfl⟩) _ hn2 (i,a0) (List.mem_singleton.2 rfl)
     have hargs:op'.operands.toList.map a.eval=xs β:=by
      rw [← e1]
      have h6:o.op.operands.toList.map a.eval=o.op.operands.toList.map (evS β sl):=List.map_congr_left fun y hy=>(hopd y (by simpa using hy)).1
      rw [h6,← Array.toList_map,e2]
     obtain ⟨w',hrun,hbh,hnw,oo,nn,hT⟩:=ok β w hneeds hold a.eval o e1 hargs
     have g2:=g.chg ((hq i).2 hlt) hm0 hi hnw hT hbh
     unfold Oper.wp
     rw [hrun]
     refine hK β w' (fun _ _=>rfl) (g2.view (fun _=>rfl) fun k hk=>?_)
     rw [List.getElem?_set]
     by_cases e:i=k
     · rw [← e,updO_eq,if_pos rfl,if_pos hlt]
     · rw [updO_ne (Ne.symm e),if_neg e]
   · cases h
 · cases h
theorem opR0_ok {P:Program} {m0:Nat} {q:Nat→Bool} {sl:List (Nat × SV)} {o:Oper} {ob:List Ob} {ev:List (Ev P)} {x:SV} {q':Nat→Bool} {ob':List Ob} {ev':List (Ev P)} {c:Env→Eqs} (h:opR0 P m0 true q sl o ob ev=.ok x q' ob' ev' c) (hq:∀ k,q k=true↔k<ob.length):StepOk P m0 q sl o ob x q' ob' c∧(UniqAl ob→UniqAl ob'):=by
 unfold opR0 at h
 split at h
 · rename_i x1 hgh
   injection h with e1 e2 e3 e4 e5
   subst e1 e2 e3 e4 e5
   exact ⟨ghS_ok hgh,id⟩
 split at h
 · rename_i j hmv
   rw [lit_eq] at h
   injection h with e1 e2 e3 e4 e5
   subst e1 e2 e3 e4 e5
   exact ⟨mvS_ok hmv hq,id⟩
 split at h
 · rename_i x1 q1 ob1 ev1 k1 hop
   injection h with e1 e2 e3 e4 e5
   subst e1 e2 e3 e4 e5
   exact updS_ok hop hq
 · split at h
   · rename_i x1 q1 ob1 ev1 k1 hop
     injection h with e1 e2 e3 e4 e5
     subst e1 e2 e3 e4 e5
     obtain ⟨⟨h1,h2,_,h4⟩,h5⟩:=opS_ok hop (fun k hk=>(hq k).1 hk)
     refine ⟨⟨⟨h1,h2,h4⟩,?_⟩,opS_uq hop⟩
     intro hok B0 w0 β w a g hm hopd hns K Q hK
     refine h5 hok B0 w0 q _ β w a g (fun k hk=>⟨hk,rfl⟩) (fun k hk _=>?_) hm (fun k i D D' _ hx _=>hx) hopd hns K Q fun β' w' obj' e1 e2 e3 g=>?_
     · cases hx:q k with
       | false=>rfl
       | true=>have:=(hq k).1 hx; omega
     · exact hK β' w' e1 (g.view (fun k=>by rw [Bool.eq_iff_iff,rangeQ_iff]; exact h2 k) fun k hk=>(e2 k ((h2 k).2 (rangeQ_iff.1 hk))).symm)
   · split at h
     · rename_i x1 q1 ob1 ev1 k1 hop
       injection h with e1 e2 e3 e4 e5
       subst e1 e2 e3 e4 e5
       exact refS_ok hop hq
     · split at h
       · rename_i x1 q1 ob1 ev1 k1 hop
         injection h with e1 e2 e3 e4 e5
         subst e1 e2 e3 e4 e5
         exact mutS_ok hop hq
       · exact ownS_ok h hq
theorem frzO_len (i:Nat) (ob:List Ob):(frzO i ob).length=ob.length:=by
 unfold frzO
 split
 · rw [List.length_set]
 · rfl
theorem frzO_uq {ob:List Ob} (h:UniqAl ob) (i:Nat):UniqAl (frzO i ob):=by
 unfold frzO
 split
 · exact h.sets i fun j D e=>by cases e
 · exact h
theorem frzO_good {B0:Bd} {m0:Nat} {w0:World} {ex:Nat→Bool} {ob:List Ob} {β:Env} {w:World} (h:Good B0 m0 w0 ex (fun k=>ob[k]?) β w) (i:Nat):Good B0 m0 w0 ex (fun k=>(frzO i ob)[k]?) β w:=by
 unfold frzO
 split
 · rename_i D t e
   refine (h.frz e).view (fun _=>rfl) fun k hk=>?_
   rw [List.getElem?_set]
   have hlt:=(List.getElem?_eq_some_iff.1 e).1
   by_cases e2:i=k
   · rw [← e2,updO_eq,if_pos rfl,if_pos hlt]
   · rw [updO_ne (Ne.symm e2),if_neg e2]
 · exact h
theorem opR_ok {P:Program} {m0:Nat} {q:Nat→Bool} {sl:List (Nat × SV)} {o:Oper} {ob:List Ob} {ev:List (Ev P)} {x:SV} {q':Nat→Bool} {ob':List Ob} {ev':List (Ev P)} {c:Env→Eqs} (h:opR P m0 true q sl o ob ev=.ok x q' ob' ev' c) (hq:∀ k,q k=true↔k<ob.length):StepOk P m0 q sl o ob x q' ob' c∧(UniqAl ob→UniqAl ob'):=by
 unfold opR at h
 split at h
 · rename_i f ev1
   rw [lit_eq] at h
   obtain ⟨⟨h1,h2⟩,h3⟩:=opR0_ok h (fun k=>by rw [frzO_len]; exact hq k)
   rw [frzO_len] at h1 h2
   exact ⟨⟨h1,fun hok B0 w0 β w a g hm hopd hns K Q hK=>h2 hok B0 w0 β w a (frzO_good g _) hm hopd hns K Q hK⟩,fun hu=>h3 (frzO_uq hu _)⟩
 · exact opR0_ok h hq
theorem put_defers (a:Act) (d:Option Tmp) (v:Value):(a.put d v).defers=a.defers:=by cases d<;>rfl
theorem opStep_ok {P:Program} {m0 n:Nat} {ops:Array Oper} {o:Oper} {c c':Cf P} (h:opStep P m0 n true ops o c=some c'):(∀ f∈c.cs,f∈c'.cs)∧(c'.good→∀ {B0:Bd} {w0:World} {β:Env} {a:Act} {w:World},Sync P m0 n B0 w0 c β a w →
  ∀ (K:Act→World→Prop) (Q:Exit→Act→World→Prop),(∀ β' a' w',(∀ k,k<B0.k→β' k=β k)→Sync P m0 n B0 w0 c' β' a' w'→K a' w')→if Region.wanted o (yielded ops a.tmps) then o.wp P a w K Q else K (a.put o.dst undef) w):=by
 unfold opStep at h
 rw [cond_eq_ite] at h
 split at h
 · rename_i hd
   rw [Bool.and_eq_true] at hd
   split at h
   · rename_i hw
     split at h
     · rename_i x q ob ev k hop
       obtain rfl:=Option.some.inj h
       refine ⟨fun f hf=>List.mem_cons_of_mem _ hf,fun hg B0 w0 β a w s K Q hK=>?_⟩
       rw [wanted_eq hw (fun j d _ _=>⟨β,s.sl.2 d⟩),if_pos rfl]
       have hq:∀ k,c.q k=true→k<c.ob.length:=fun k hk=>(s.q k).1 hk
       obtain ⟨⟨⟨h1,h2,h4⟩,h5⟩,huq⟩:=opR_ok hop s.q
       refine h5 (fun β=>hg β k (by simp)) B0 w0 β w a s.good s.m0.1 (fun y _=>⟨s.sl.eval y,s.of.slot y⟩) hd.2 K Q fun β' w' e1 g=>?_
       · have hq2:∀ k,q k=true↔k<ob.length:=fun k=>by
          rw [h2 k,s.q k]
          constructor
          · rintro (a | a)
            · omega
            · exact a.2
          · intro a
            by_cases e:k<c.ob.length
            · exact .inl e
            · exact .inr ⟨by omega,a⟩
         have hb:∀ k,c.q k=true→β k=β' k:=fun k hk=>(e1 k (by have:=hq k hk; omega)).symm
         have hmono:∀ k,c.q k=true→q k=true:=fun k hk=>(h2 k).2 (.inl hk)
         have:=s.m0
         exact hK β' _ w' (fun k hk=>e1 k (by omega)) ⟨g,hq2,(s.sl.congr s.of hb).put hd.1 x rfl,SlOf.put (fun t=>SV.of_mono hmono _ (s.of t)) _ h4,by dsimp only; omega,by rw [put_defers]; exact s.defers,huq s.uq⟩
     · cases h
   · rename_i hw
     obtain rfl:=Option.some.inj h
     refine ⟨fun f hf=>hf,fun hg B0 w0 β a w s K Q hK=>?_⟩
     rw [wanted_eq hw (fun j d _ _=>⟨β,s.sl.2 d⟩),if_neg (by decide)]
     exact hK β _ w (fun _ _=>rfl) ⟨s.good,s.q,s.sl.put hd.1 undefS rfl,s.of.put _ rfl,s.m0,by rw [put_defers]; exact s.defers,s.uq⟩
   · cases h
 · cases h
theorem seqS_ok {P:Program} {m0 n:Nat} {ops:Array Oper}:∀ {l:List Oper} {c c':Cf P},seqS P m0 n ops l c=some c'→(∀ f∈c.cs,f∈c'.cs)∧(c'.good→∀ {B0:Bd} {w0:World} {β:Env} {a:Act} {w:World},Sync P m0 n B0 w0 c β a w →
  ∀ (Q:Exit→Act→World→Prop),(∀ β' a' w',(∀ k,k<B0.k→β' k=β k)→Sync P m0 n B0 w0 c' β' a' w'→Q .normal a' w')→wpList P ops Q l a w)
 | [],c,c',h=>by
  obtain rfl:=Option.some.inj h
  exact ⟨fun f hf=>hf,fun _ B0 w0 β a w s Q hQ=>hQ β a w (fun _ _=>rfl) s⟩
 | o::r,c,c',h=>by
  simp only [seqS] at h
  split at h
  · rename_i c1 h1
    obtain ⟨k1,k2⟩:=opStep_ok h1
    obtain ⟨k3,k4⟩:=seqS_ok h
    refine ⟨fun f hf=>k3 f (k1 f hf),fun hg B0 w0 β a w s Q hQ=>?_⟩
    refine wpList_step fun K hK=>?_
    exact k2 (fun β f hf=>hg β f (k3 f hf)) s K Q fun β' a' w' e s'=>hK _ _ (k4 hg s' Q fun β2 a2 w2 e2 s2=>hQ β2 a2 w2 (fun k hk=>(e2 k hk).trans (e k hk)) s2)
  · cases h
end
section
open Go Go.RowKit
theorem waitsQ_iff {hs:List Hd} {k:Nat}:∀ {es:List Edge},waitsQ hs es k=true↔∃ e∈es,Region.binds .any e=true∧∃ h,hs[e.on]?=some h∧h.q k=true
 | []=>by simp [waitsQ]
 | e::r=>by
  have ih:=waitsQ_iff (hs:=hs) (k:=k) (es:=r)
  unfold waitsQ
  split
  · rename_i h hb hh
    rw [Bool.or_eq_true,ih]
    constructor
    · rintro (a | ⟨e',h1,h2⟩)
      · exact ⟨e,List.mem_cons_self ..,hb,h,hh,a⟩
      · exact ⟨e',List.mem_cons_of_mem _ h1,h2⟩
    · rintro ⟨e',h1,h2,h',h3,h4⟩
      rcases List.mem_cons.1 h1 with rfl | h1
      · rw [hh] at h3
        obtain rfl:=Option.some.inj h3
        exact .inl h4
      · exact .inr ⟨e',h1,h2,h',h3,h4⟩
  · rename_i hno
    rw [ih]
    constructor
    · rintro ⟨e',h1,h2⟩
      exact ⟨e',List.mem_cons_of_mem _ h1,h2⟩
    · rintro ⟨e',h1,h2,h',h3,h4⟩
      rcases List.mem_cons.1 h1 with rfl | h1
      · exact absurd h3 (hno h' h2)
      · exact ⟨e',h1,h2,h',h3,h4⟩
theorem look_waits {hs:List Hd} {sl0:List (Nat × SV)} {t:Nat}:∀ {es:List Edge},
  ((waitsSl hs es).any (fun p=>Nat.beq p.1 t)=true→∃ e∈es,Region.binds .any e=true∧∃ h,hs[e.on]?=some h∧h.dst=some t∧look (waitsSl hs es++sl0) t=h.x) ∧
  ((waitsSl hs es).any (fun p=>Nat.beq p.1 t)=false→look (waitsSl hs es++sl0) t=look sl0 t)
 | []=>⟨fun h=>by simp [waitsSl] at h,fun _=>rfl⟩
 | e::r=>by
  obtain ⟨ih1,ih2⟩:=look_waits (hs:=hs) (sl0:=sl0) (t:=t) (es:=r)
  unfold waitsSl
  split
  · rename_i h hb hh
    cases hd:h.dst with
    | none =>
     simp only [putS]
     exact ⟨fun a=>by obtain ⟨e',h1,h2⟩:=ih1 a; exact ⟨e',List.mem_cons_of_mem _ h1,h2⟩,ih2⟩
    | some d =>
     simp only [putS,List.any_cons,List.cons_append,look,cond_eq_ite]
     by_cases e1:d=t
     · subst e1
       have:Nat.beq d d=true:=Nat.beq_refl d
       rw [this,if_pos rfl]
       exact ⟨fun _=>⟨e,List.mem_cons_self ..,hb,h,hh,hd,rfl⟩,fun a=>by simp at a⟩
     · have:Nat.beq d t=false:=Bool.eq_false_iff.2 fun a=>e1 (Nat.eq_of_beq_eq_true a)
       rw [this,Bool.false_or,if_neg (by decide)]
       exact ⟨fun a=>by obtain ⟨e',h1,h2⟩:=ih1 a; exact ⟨e',List.mem_cons_of_mem _ h1,h2⟩,ih2⟩
  · exact ⟨fun a=>by obtain ⟨e',h1,h2⟩:=ih1 a; exact ⟨e',List.mem_cons_of_mem _ h1,h2⟩,ih2⟩
def HdAt (P:Program) (m0 n:Nat) (l:List Oper) (q0:Nat→Bool) (sl0:List (Nat × SV)) (hsF:List Hd) (obF:List Ob) (csF:List (Env→Eqs)) (s e i:Nat) (o:Oper):Prop :=
 s≤e∧e≤obF.length∧dstIn n o.dst=true∧noSelectB o.op=true∧guardIn o=true∧o.op.operands.toList.all (knownIn l (hsF.take i) o.after.toList)=true ∧
 ∃ h b,hsF[i]?=some h∧h.dst=o.dst∧(∀ j,h.q j=true↔waitsQ (hsF.take i) o.after.toList j=true∨(s≤j∧j<e))∧wantedS l.toArray (waitsSl (hsF.take i) o.after.toList++sl0) o=some b ∧
  (b=true→∃ q' k ev1 ev2,k∈csF∧opS P m0 false (fun k=>q0 k||waitsQ (hsF.take i) o.after.toList k) (waitsSl (hsF.take i) o.after.toList++sl0) o (obF.take s) ev1=.ok h.x q' (obF.take e) ev2 k)∧(b=false→h.x=undefS∧e=s)
theorem headS_spec {P:Program} {m0 n:Nat} {l:List Oper} {q0:Nat→Bool} {sl0:List (Nat × SV)}:∀ {ops:List Oper} {hs:List Hd} {ob:List Ob} {ev:List (Ev P)} {cs:List (Env→Eqs)} {hsF:List Hd} {obF:List Ob} {evF:List (Ev P)} {csF:List (Env→Eqs)},
  headS P m0 n l q0 sl0 ops hs ob ev cs=some (hsF,obF,evF,csF)→(∀ k,q0 k=true→k<ob.length)→(∀ h∈hs,∀ k,h.q k=true→k<ob.length)→UniqAl ob →
  UniqAl obF∧∃ S:Nat→Nat,S 0=ob.length∧S ops.length=obF.length∧hsF.length=hs.length+ops.length∧(∃ r,hsF=hs++r)∧(∃ r,obF=ob++r)∧(∀ f∈cs,f∈csF) ∧
   ∀ i o,ops[i]?=some o→HdAt P m0 n l q0 sl0 hsF obF csF (S i) (S (i+1)) (hs.length+i) o
 | [],hs,ob,ev,cs,hsF,obF,evF,csF,h,_,_,hu=>by
  simp only [headS] at h
  obtain ⟨rfl,rfl,rfl,rfl⟩:=Option.some.inj h
  exact ⟨hu,fun _=>ob.length,rfl,rfl,by simp,⟨[],by simp⟩,⟨[],by simp⟩,fun f hf=>hf,fun i o hi=>by simp at hi⟩
 | o::r,hs,ob,ev,cs,hsF,obF,evF,csF,h,hq0,hhs,hu=>by
  simp only [headS] at h
  rw [cond_eq_ite] at h
  split at h
  · rename_i hchk
    simp only [Bool.and_eq_true] at hchk
    obtain ⟨⟨⟨c1,c2⟩,c3⟩,c4⟩:=hchk
    have hqb:∀ k,(q0 k||waitsQ hs o.after.toList k)=true→k<ob.length:=fun k hk=>by
     rw [Bool.or_eq_true] at hk
     rcases hk with hk | hk
     · exact hq0 k hk
     · obtain ⟨e,_,_,h',h1,h2⟩:=waitsQ_iff.1 hk
       exact hhs h' (List.mem_of_getElem? h1) k h2
    have fin:∀ (hd:Hd) (ob':List Ob) (ev':List (Ev P)) (cs':List (Env→Eqs)),headS P m0 n l q0 sl0 r (hs++[hd]) ob' ev' cs'=some (hsF,obF,evF,csF)→ob.length≤ob'.length→(∃ x,ob'=ob++x)→(∀ f∈cs,f∈cs')→hd.dst=o.dst →
      (∀ j,hd.q j=true↔waitsQ hs o.after.toList j=true∨(ob.length≤j∧j<ob'.length))→(∃ b,wantedS l.toArray (waitsSl hs o.after.toList++sl0) o=some b ∧
       (b=true→∃ q' k ev2,k∈cs'∧opS P m0 false (fun k=>q0 k||waitsQ hs o.after.toList k) (waitsSl hs o.after.toList++sl0) o ob ev=.ok hd.x q' ob' ev2 k)∧(b=false→hd.x=undefS∧ob'.length=ob.length))→UniqAl ob' →
      UniqAl obF∧∃ S:Nat→Nat,S 0=ob.length∧S (o::r).length=obF.length∧hsF.length=hs.length+(o::r).length∧(∃ r,hsF=hs++r)∧(∃ r,obF=ob++r)∧(∀ f∈cs,f∈csF) ∧
       ∀ i o',(o::r)[i]?=some o'→HdAt P m0 n l q0 sl0 hsF obF csF (S i) (S (i+1)) (hs.length+i) o':=by
     intro hd ob' ev' cs' h' hle hpre hcs hdst hqd hw hu'
     obtain ⟨hu2,S,s1,s2,s3,⟨r1,s4⟩,⟨r2,s5⟩,s6,s7⟩:=headS_spec h' (fun k hk=>Nat.lt_of_lt_of_le (hq0 k hk) hle) (fun x hx k hk=>by
      rcases List.mem_append.1 hx with hx | hx
      · exact Nat.lt_of_lt_of_le (hhs x hx k hk) hle
      · obtain rfl:=List.mem_singleton.1 hx
        rcases (hqd k).1 hk with hk | hk
        · exact Nat.lt_of_lt_of_le (hqb k (by rw [hk,Bool.or_true])) hle
        · exact hk.2) hu'
     obtain ⟨r3,s8⟩:=hpre
     have hlen1:(hs++[hd]).length=hs.length+1:=by simp
     have ht:hsF.take hs.length=hs:=by rw [s4,List.append_assoc,List.take_left]
     have hget:hsF[hs.length]?=some hd:=by rw [s4,List.append_assoc,List.getElem?_append_right (Nat.le_refl _)]; simp
     have hobl:obF.length=ob'.length+r2.length:=by rw [s5,List.length_append]
     have ho1:obF.take ob.length=ob:=by rw [s5,s8,List.append_assoc,List.take_left]
     have ho2:obF.take ob'.length=ob':=by rw [s5,List.take_left]
     refine ⟨hu2,fun i=>match i with | 0=>ob.length | i+1=>S i,rfl,s2,by rw [s3,hlen1]; simp; omega,⟨[hd]++r1,by rw [s4,List.append_assoc]⟩,⟨r3++r2,by rw [s5,s8,List.append_assoc]⟩,fun f hf=>s6 f (hcs f hf),?_⟩
     intro i o' hi
     cases i with
     | zero =>
      simp only [List.getElem?_cons_zero] at hi
      obtain rfl:=Option.some.inj hi
      dsimp only
      rw [s1,Nat.add_zero]
      refine ⟨hle,by omega,c1,c2,c3,by rw [ht]; exact c4,hd,?_⟩
      obtain ⟨b,w1,w2,w3⟩:=hw
      refine ⟨b,hget,hdst,by rw [ht]; exact hqd,by rw [ht]; exact w1,fun hb=>?_,fun hb=>w3 hb⟩
      obtain ⟨q',k,ev2,k1,k2⟩:=w2 hb
      exact ⟨q',k,ev,ev2,s6 k k1,by rw [ht,ho1,ho2]; exact k2⟩
     | succ i =>
      have:=s7 i o' (by simpa using hi)
      rw [hlen1] at this
      rw [show hs.length+(i+1)=hs.length+1+i by omega]
      exact this
    split at h
    · rename_i hw
      split at h
      · rename_i x q' ob' ev' k hop
        obtain ⟨⟨o1,_,o3,_⟩,_⟩:=opS_ok hop hqb
        refine fin _ ob' ev' (k::cs) h o1 (o3 rfl) (fun f hf=>List.mem_cons_of_mem _ hf) rfl (fun j=>?_) ⟨true,hw,fun _=>⟨q',k,ev',List.mem_cons_self ..,hop⟩,fun e=>(by cases e)⟩ (opS_uq hop hu)
        rw [Bool.or_eq_true,Bool.and_eq_true,Nat.ble_eq,Nat.blt_eq]
      · cases h
    · rename_i hw
      refine fin _ ob ev cs h (Nat.le_refl _) ⟨[],by simp⟩ (fun f hf=>hf) rfl (fun j=>?_) ⟨false,hw,fun e=>(by cases e),fun _=>⟨rfl,rfl⟩⟩ hu
      constructor
      · exact .inl
      · rintro (a | a)
        · exact a
        · omega
    · cases h
  · cases h
def HdAt2 (P:Program) (m0 n:Nat) (l:List Oper) (q0:Nat→Bool) (sl0:List (Nat × SV)) (hsF:List Hd) (obF:List Ob) (XF:Nat→Option Ob) (csF:List (Env→Eqs)) (Z:List (Nat × Nat)) (s e i:Nat) (o:Oper):Prop :=
 s≤e∧e≤obF.length∧dstIn n o.dst=true∧noSelectB o.op=true∧guardIn o=true∧o.op.operands.toList.all (knownIn l (hsF.take i) o.after.toList)=true ∧
 ∃ h b,hsF[i]?=some h∧h.dst=o.dst∧(∀ j,h.q j=true↔waitsQ (hsF.take i) o.after.toList j=true∨(s≤j∧j<e))∧wantedS l.toArray (waitsSl (hsF.take i) o.after.toList++sl0) o=some b ∧
  (kAt Z i=none→(b=true→(∃ q' k ev1 ev2,k∈csF∧opS P m0 false (fun k=>(q0 k||waitsQ (hsF.take i) o.after.toList k)&&visZ l Z i k) (waitsSl (hsF.take i) o.after.toList++sl0) o (obF.take s) ev1=.ok h.x q' (obF.take e) ev2 k∧o.op.operands.toList.all (slotOfB (fun k=>(q0 k||waitsQ (hsF.take i) o.after.toList k)&&visZ l Z i k) (waitsSl (hsF.take i) o.after.toList++sl0))=true)∨(e=s∧∃ k,k∈csF∧pureS P (fun k=>q0 k||waitsQ (hsF.take i) o.after.toList k) (waitsSl (hsF.take i) o.after.toList++sl0) o=some (h.x,k)))∧(b=false→h.x=undefS∧e=s)) ∧
  (∀ K,kAt Z i=some K→b=true∧e=s∧(q0 K||waitsQ (hsF.take i) o.after.toList K)=true∧∃ q' ob2 k ev1 ev2 Y,k∈csF∧(fun _=>sameBut K 0 (obF.take s) ob2)∈csF∧opS P m0 true (fun k=>(q0 k||waitsQ (hsF.take i) o.after.toList k)&&(!isZ Z k||Nat.beq k K)) (waitsSl (hsF.take i) o.after.toList++sl0) o (obF.take s) ev1=.ok h.x q' ob2 ev2 k∧ob2[K]?=some Y∧Y.own=true∧ob2.length=s∧XF i=some Y∧o.op.operands.toList.all (slotOfB (fun k=>(q0 k||waitsQ (hsF.take i) o.after.toList k)&&(!isZ Z k||Nat.beq k K)) (waitsSl (hsF.take i) o.after.toList++sl0))=true)
theorem headS2_spec {P:Program} {m0 n:Nat} {l:List Oper} {q0:Nat→Bool} {sl0:List (Nat × SV)} {Z:List (Nat × Nat)}:∀ {ops:List Oper} {hs:List Hd} {ob:List Ob} {X:Nat→Option Ob} {ev:List (Ev P)} {cs:List (Env→Eqs)} {hsF:List Hd} {obF:List Ob} {XF:Nat→Option Ob} {evF:List (Ev P)} {csF:List (Env→Eqs)},
  headS2 P m0 n l q0 sl0 Z ops hs ob X ev cs=some (hsF,obF,XF,evF,csF)→(∀ k,q0 k=true→k<ob.length)→(∀ h∈hs,∀ k,h.q k=true→k<ob.length)→UniqAl ob →
  UniqAl obF∧(∀ z,z<hs.length→XF z=X z)∧∃ S:Nat→Nat,S 0=ob.length∧S ops.length=obF.length∧hsF.length=hs.length+ops.length∧(∃ r,hsF=hs++r)∧(∃ r,obF=ob++r)∧(∀ f∈cs,f∈csF) ∧
   ∀ i o,ops[i]?=some o→HdAt2 P m0 n l q0 sl0 hsF obF XF csF Z (S i) (S (i+1)) (hs.length+i) o
 | [],hs,ob,X,ev,cs,hsF,obF,XF,evF,csF,h,_,_,hu=>by
  simp only [headS2] at h
  obtain ⟨rfl,rfl,rfl,rfl,rfl⟩:=Option.some.inj h
  exact ⟨hu,fun _ _=>rfl,fun _=>ob.length,rfl,rfl,by simp,⟨[],by simp⟩,⟨[],by simp⟩,fun f hf=>hf,fun i o hi=>by simp at hi⟩
 | o::r,hs,ob,X,ev,cs,hsF,obF,XF,evF,csF,h,hq0,hhs,hu=>by
  simp only [headS2] at h
  rw [cond_eq_ite] at h
  split at h
  · rename_i hchk
    simp only [Bool.and_eq_true] at hchk
    obtain ⟨⟨⟨c1,c2⟩,c3⟩,c4⟩:=hchk
    have hqb:∀ k,(q0 k||waitsQ hs o.after.toList k)=true→k<ob.length:=fun k hk=>by
     rw [Bool.or_eq_true] at hk
     rcases hk with hk | hk
     · exact hq0 k hk
     · obtain ⟨e,_,_,h',h1,h2⟩:=waitsQ_iff.1 hk
       exact hhs h' (List.mem_of_getElem? h1) k h2
    have fin:∀ (hd:Hd) (ob':List Ob) (X':Nat→Option Ob) (ev':List (Ev P)) (cs':List (Env→Eqs)),headS2 P m0 n l q0 sl0 Z r (hs++[hd]) ob' X' ev' cs'=some (hsF,obF,XF,evF,csF)→ob.length≤ob'.length→(∃ x,ob'=ob++x)→(∀ f∈cs,f∈cs')→hd.dst=o.dst →
      (∀ j,hd.q j=true↔waitsQ hs o.after.toList j=true∨(ob.length≤j∧j<ob'.length))→(∃ b,wantedS l.toArray (waitsSl hs o.after.toList++sl0) o=some b ∧
       (∀ z,z<hs.length→X' z=X z)∧(kAt Z hs.length=none→(b=true→(∃ q' k ev2,k∈cs'∧opS P m0 false (fun k=>(q0 k||waitsQ hs o.after.toList k)&&visZ l Z hs.length k) (waitsSl hs o.after.toList++sl0) o ob ev=.ok hd.x q' ob' ev2 k∧o.op.operands.toList.all (slotOfB (fun k=>(q0 k||waitsQ hs o.after.toList k)&&visZ l Z hs.length k) (waitsSl hs o.after.toList++sl0))=true)∨(ob'.length=ob.length∧∃ k,k∈cs'∧pureS P (fun k=>q0 k||waitsQ hs o.after.toList k) (waitsSl hs o.after.toList++sl0) o=some (hd.x,k)))∧(b=false→hd.x=undefS∧ob'.length=ob.length)) ∧
       (∀ K,kAt Z hs.length=some K→b=true∧ob'.length=ob.length∧(q0 K||waitsQ hs o.after.toList K)=true∧∃ q' ob2 k ev2 Y,k∈cs'∧(fun _=>sameBut K 0 ob ob2)∈cs'∧opS P m0 true (fun k=>(q0 k||waitsQ hs o.after.toList k)&&(!isZ Z k||Nat.beq k K)) (waitsSl hs o.after.toList++sl0) o ob ev=.ok hd.x q' ob2 ev2 k∧ob2[K]?=some Y∧Y.own=true∧ob2.length=ob.length∧X' hs.length=some Y∧o.op.operands.toList.all (slotOfB (fun k=>(q0 k||waitsQ hs o.after.toList k)&&(!isZ Z k||Nat.beq k K)) (waitsSl hs o.after.toList++sl0))=true))→UniqAl ob' →
      UniqAl obF∧(∀ z,z<hs.length→XF z=X z)∧∃ S:Nat→Nat,S 0=ob.length∧S (o::r).length=obF.length∧hsF.length=hs.length+(o::r).length∧(∃ r,hsF=hs++r)∧(∃ r,obF=ob++r)∧(∀ f∈cs,f∈csF) ∧
       ∀ i o',(o::r)[i]?=some o'→HdAt2 P m0 n l q0 sl0 hsF obF XF csF Z (S i) (S (i+1)) (hs.length+i) o':=by
     intro hd ob' X' ev' cs' h' hle hpre hcs hdst hqd hw hu'
     obtain ⟨hu2,hX2,S,s1,s2,s3,⟨r1,s4⟩,⟨r2,s5⟩,s6,s7⟩:=headS2_spec h' (fun k hk=>Nat.lt_of_lt_of_le (hq0 k hk) hle) (fun x hx k hk=>by
      rcases List.mem_append.1 hx with hx | hx
      · exact Nat.lt_of_lt_of_le (hhs x hx k hk) hle
      · obtain rfl:=List.mem_singleton.1 hx
        rcases (hqd k).1 hk with hk | hk
        · exact Nat.lt_of_lt_of_le (hqb k (by rw [hk,Bool.or_true])) hle
        · exact hk.2) hu'
     obtain ⟨r3,s8⟩:=hpre
     have hlen1:(hs++[hd]).length=hs.length+1:=by simp
     have ht:hsF.take hs.length=hs:=by rw [s4,List.append_assoc,List.take_left]
     have hget:hsF[hs.length]?=some hd:=by rw [s4,List.append_assoc,List.getElem?_append_right (Nat.le_refl _)]; simp
     have hobl:obF.length=ob'.length+r2.length:=by rw [s5,List.length_append]
     have ho1:obF.take ob.length=ob:=by rw [s5,s8,List.append_assoc,List.take_left]
     have ho2:obF.take ob'.length=ob':=by rw [s5,List.take_left]
     obtain ⟨b,w1,w0,w2,w3⟩:=hw
     refine ⟨hu2,fun z hz=>?_,fun i=>match i with | 0=>ob.length | i+1=>S i,rfl,s2,by rw [s3,hlen1]; simp; omega,⟨[hd]++r1,by rw [s4,List.append_assoc]⟩,⟨r3++r2,by rw [s5,s8,List.append_assoc]⟩,fun f hf=>s6 f (hcs f hf),?_⟩
     · rw [hX2 z (by omega)]
       exact w0 z hz
     intro i o' hi
     cases i with
     | zero =>
      simp only [List.getElem?_cons_zero] at hi
      obtain rfl:=Option.some.inj hi
      dsimp only
      rw [s1,Nat.add_zero]
      refine ⟨hle,by omega,c1,c2,c3,by rw [ht]; exact c4,hd,b,hget,hdst,by rw [ht]; exact hqd,by rw [ht]; exact w1,fun hz=>?_,fun K hz=>?_⟩
      · obtain ⟨w4,w5⟩:=w2 hz
        refine ⟨fun hb=>?_,fun hb=>w5 hb⟩
        rcases w4 hb with ⟨q',k,ev2,k1,k2,k3⟩ | ⟨k0,k,k1,k2⟩
        · exact .inl ⟨q',k,ev,ev2,s6 k k1,by rw [ht,ho1,ho2]; exact k2,by rw [ht]; exact k3⟩
        · exact .inr ⟨k0,k,s6 k k1,by rw [ht]; exact k2⟩
      · obtain ⟨w4,w5,w6,q',ob2,k,ev2,Y,k1,k2,k3,k4,k5,k6,k7,k8⟩:=w3 K hz
        refine ⟨w4,w5,by rw [ht]; exact w6,q',ob2,k,ev,ev2,Y,s6 k k1,s6 _ (by rw [ho1]; exact k2),by rw [ht,ho1]; exact k3,k4,k5,k6,?_,by rw [ht]; exact k8⟩
        rw [hX2 hs.length (by omega)]
        exact k7
     | succ i =>
      have:=s7 i o' (by simpa using hi)
      rw [hlen1] at this
      rw [show hs.length+(i+1)=hs.length+1+i by omega]
      exact this
    split at h
    · rename_i hw
      split at h
      · rename_i K hz
        rw [cond_eq_ite] at h
        split at h
        · rename_i hsl
          split at h
          · rename_i x q' ob' ev' k hop
            split at h
            · rename_i Y hY
              rw [cond_eq_ite] at h
              split at h
              · rename_i hc
                simp only [Bool.and_eq_true,Nat.beq_eq] at hc
                refine fin _ ob _ ev' _ h (Nat.le_refl _) ⟨[],by simp⟩ (fun f hf=>List.mem_cons_of_mem _ (List.mem_cons_of_mem _ hf)) rfl (fun j=>?_) ⟨true,hw,fun z hzl=>?_,fun e=>?_,fun K' hK'=>?_⟩ hu
                · constructor
                  · exact .inl
                  · rintro (a | a)
                    · exact a
                    · omega
                · show (bif Nat.beq z hs.length then some Y else X z)=X z
                  rw [show Nat.beq z hs.length=false by rw [Bool.eq_false_iff,ne_eq,Nat.beq_eq]; omega]; rfl
                · rw [hz] at e; cases e
                · rw [hz] at hK'
                  obtain rfl:=Option.some.inj hK'
                  refine ⟨rfl,rfl,hc.1.2,q',ob',k,ev',Y,List.mem_cons_of_mem _ (List.mem_cons_self ..),List.mem_cons_self ..,hop,hY,hc.1.1,hc.2,?_,hsl⟩
                  show (bif Nat.beq hs.length hs.length then some Y else X hs.length)=some Y
                  rw [show Nat.beq hs.length hs.length=true from Nat.beq_refl _]; rfl
              · cases h
            · cases h
          · cases h
        · cases h
      · rename_i hz
        rw [cond_eq_ite] at h
        split at h
        · rename_i hsl
          split at h
          · rename_i x q' ob' ev' k hop
            obtain ⟨⟨o1,_,o3,_⟩,_⟩:=opS_ok hop (fun k hk=>hqb k (by rw [Bool.and_eq_true] at hk; exact hk.1))
            refine fin _ ob' X ev' (k::cs) h o1 (o3 rfl) (fun f hf=>List.mem_cons_of_mem _ hf) rfl (fun j=>?_) ⟨true,hw,fun _ _=>rfl,fun _=>⟨fun _=>.inl ⟨q',k,ev',List.mem_cons_self ..,hop,hsl⟩,fun e=>(by cases e)⟩,fun K e=>(by rw [hz] at e; cases e)⟩ (opS_uq hop hu)
            rw [Bool.or_eq_true,Bool.and_eq_true,Nat.ble_eq,Nat.blt_eq]
          · cases h
        · split at h
          · rename_i x k hp
            refine fin _ ob X ev (k::cs) h (Nat.le_refl _) ⟨[],by simp⟩ (fun f hf=>List.mem_cons_of_mem _ hf) rfl (fun j=>?_) ⟨true,hw,fun _ _=>rfl,fun _=>⟨fun _=>.inr ⟨rfl,k,List.mem_cons_self ..,hp⟩,fun e=>(by cases e)⟩,fun K e=>(by rw [hz] at e; cases e)⟩ hu
            constructor
            · exact .inl
            · rintro (a | a)
              · exact a
              · omega
          · cases h
    · rename_i hw
      split at h
      · cases h
      · rename_i hz
        refine fin _ ob X ev cs h (Nat.le_refl _) ⟨[],by simp⟩ (fun f hf=>hf) rfl (fun j=>?_) ⟨false,hw,fun _ _=>rfl,fun _=>⟨fun e=>(by cases e),fun _=>⟨rfl,rfl⟩⟩,fun K e=>(by rw [hz] at e; cases e)⟩ hu
        constructor
        · exact .inl
        · rintro (a | a)
          · exact a
          · omega
    · cases h
  · cases h
theorem go_ok {β:Env} {w:World} {tr:List Tr}:tr.all isGo=true→trOk β w tr∧trEnd β w tr=w:=by
 induction tr with
 | nil=>exact fun _=>⟨trivial,rfl⟩
 | cons x r ih =>
  intro h
  rw [List.all_cons,Bool.and_eq_true] at h
  cases x<;>first | exact ih h.2 | exact Bool.noConfusion (show false=true from h.1)
theorem pureS_ok {P:Program} {q:Nat→Bool} {sl:List (Nat × SV)} {o:Oper} {x:SV} {k:Env→Eqs} (h:pureS P q sl o=some (x,k)):x.of q=true∧∀ β,Eqs.ok (k β)→∀ w,(execOp (evS β sl) o).run P w=.ok (.value (x.den β)) w:=by
 unfold pureS at h
 split at h
 · rename_i t ht
   rw [cond_eq_ite] at h
   split at h
   · rename_i hb
     injection h with h
     injection h with h1 h2
     subst h1
     refine ⟨hb,fun β _ w=>?_⟩
     have hop:o.op=.move (.tmp t):=by
      unfold mvT at ht
      split at ht
      · rename_i t' hop
        rw [hop,Option.some.inj ht]
      · cases ht
     unfold execOp
     rw [hop]
     rfl
   · cases h
 · split at h
   · rename_i v q1 ob1 tr hr
     rw [cond_eq_ite] at h
     split at h
     · rename_i hb
       rw [Bool.and_eq_true] at hb
       injection h with h
       injection h with h1 h2
       subst h1
       refine ⟨hb.1,fun β hk w=>?_⟩
       rw [← h2] at hk
       obtain ⟨t1,t2⟩:=go_ok (β:=β) (w:=w) (tr:=tr.reverse) (by rw [List.all_reverse]; exact hb.2)
       obtain ⟨n,hrun,hfn⟩:=chk_run _ _ _ hk t1
       rw [t2] at hrun
       cases n<;>first | exact (Eqs.no_ok hfn).elim | skip
       obtain ⟨e,_⟩:=Eqs.cons_ok hfn
       injection e with e
       rw [hrun,e]
     · cases h
   · cases h
theorem slotOfB_ok {q:Nat→Bool} {sl:List (Nat × SV)} {y:Operand} (h:slotOfB q sl y=true):slotOf q sl y:=by
 cases y with
 | tmp t=>exact h
 | const v=>trivial
 | global g=>trivial
 | func f=>trivial
theorem sameBut_ok {K:Nat}:∀ {l l':List Ob} {k:Nat},Eqs.ok (sameBut K k l l')→∀ j,k+j≠K→l'[j]?=l[j]?
 | [],[],_,_,_,_=>rfl
 | [],_::_,_,h,_,_=>by simp only [sameBut] at h; exact (Eqs.no_ok h).elim
 | _::_,[],_,h,_,_=>by simp only [sameBut] at h; exact (Eqs.no_ok h).elim
 | a::r,b::s,k,h,j,hj=>by
  simp only [sameBut] at h
  rw [cond_eq_ite] at h
  split at h
  · rename_i hk
    rw [Nat.beq_eq] at hk
    cases j with
    | zero=>exact absurd hk hj
    | succ j=>simpa using sameBut_ok h j (by omega)
  · obtain ⟨h1,h2⟩:=Eqs.cons_ok h
    injection h1 with h1
    cases j with
    | zero=>rw [h1]; rfl
    | succ j=>simpa using sameBut_ok h2 j (by omega)
def exD (n0 N:Nat) (S:Nat→Nat) (d:Nat→Bool):Nat→Bool:=fun k=>Nat.blt k n0||(List.range N).any fun i=>d i&&(Nat.ble (S i) k&&Nat.blt k (S (i+1)))
theorem exD_iff {n0 N:Nat} {S:Nat→Nat} {d:Nat→Bool} {k:Nat}:exD n0 N S d k=true↔k<n0∨∃ i,i<N∧d i=true∧S i≤k∧k<S (i+1):=by
 unfold exD
 rw [Bool.or_eq_true,Nat.blt_eq,List.any_eq_true]
 constructor
 · rintro (a | ⟨i,h1,h2⟩)
   · exact .inl a
   · simp only [Bool.and_eq_true,Nat.ble_eq,Nat.blt_eq] at h2
     exact .inr ⟨i,List.mem_range.1 h1,h2.1,h2.2⟩
 · rintro (a | ⟨i,h1,h2,h3⟩)
   · exact .inl a
   · exact .inr ⟨i,List.mem_range.2 h1,by simp only [Bool.and_eq_true,Nat.ble_eq,Nat.blt_eq]; exact ⟨h2,h3⟩⟩
theorem between {S:Nat→Nat} {k:Nat}:∀ {N:Nat},S 0≤k→k<S N→∃ i,i<N∧S i≤k∧k<S (i+1)
 | 0,h1,h2=>by omega
 | N+1,h1,h2=>by
  by_cases h:k<S N
  · obtain ⟨i,a,b⟩:=between h1 h
    exact ⟨i,by omega,b⟩
  · exact ⟨N,by omega,by omega,h2⟩
theorem putsH_ok {β:Env} {n:Nat} {u:Nat→Value}:∀ {ops:List Oper} {hs:List Hd} {k:Nat} {a:Act} {sl:List (Nat × SV)},ops.length=hs.length→(∀ i o h,ops[i]?=some o→hs[i]?=some h→h.dst=o.dst∧dstIn n o.dst=true∧u (k+i)=h.x.den β)→SlOk β a sl n→SlOk β (fillR u ops k a) (putsH hs sl) n
 | [],[],_,_,_,_,_,h=>h
 | [],h::hs,_,_,_,e,_,_=>by simp at e
 | o::r,[],_,_,_,e,_,_=>by simp at e
 | o::r,h::hs,k,a,sl,e,hh,hs0=>by
  obtain ⟨h1,h2,h3⟩:=hh 0 o h rfl rfl
  simp only [fillR,putsH]
  refine putsH_ok (by simpa using e) (fun i o' h' a b=>?_) ?_
  · have:=hh (i+1) o' h' (by simpa using a) (by simpa using b)
    rwa [show k+(i+1)=k+1+i by omega] at this
  · rw [h1]
    exact hs0.put h2 _ h3
theorem putsH_of {q:Nat→Bool}:∀ {hs:List Hd} {sl:List (Nat × SV)},(∀ h∈hs,h.x.of q=true)→SlOf q sl→SlOf q (putsH hs sl)
 | [],_,_,h=>h
 | h::hs,sl,hh,h0=>putsH_of (hs:=hs) (fun x hx=>hh x (List.mem_cons_of_mem _ hx)) (h0.put _ (hh h (List.mem_cons_self ..)))
theorem fillR_defers (u:Nat→Value):∀ (l:List Oper) (k:Nat) (a:Act),(fillR u l k a).defers=a.defers
 | [],_,_=>rfl
 | o::r,k,a=>by
  simp only [fillR]
  rw [fillR_defers u r,put_defers]
theorem wanted_congr {o:Oper} {y y':Nat→Option Bool} (h:∀ j,o.guard.map (·.1)=some j→y j=y' j):Region.wanted o y=Region.wanted o y':=by
 unfold Region.wanted
 cases hg:o.guard with
 | none=>rfl
 | some p =>
  obtain ⟨j,b⟩:=p
  dsimp only
  rw [h j (by rw [hg]; rfl)]
theorem drawS_ok {P:Program} {m0 n rid:Nat} {Ns:List (Nat × Nat)} {l:List Oper} {c c':Cf P} (hm:P.follows .mixedOrders=true) (h:drawS P m0 n Ns rid l c=some c') (hcq:∀ k,c.q k=true→k<c.ob.length) (huq:UniqAl c.ob):(∀ f∈c.cs,f∈c'.cs)∧(c'.good→∀ {B0:Bd} {w0:World} {β:Env} {a:Act} {w:World},Sync P m0 n B0 w0 c β a w →
  ∀ (Q:Exit→Act→World→Prop),(∀ β' a' w',(∀ k,k<B0.k→β' k=β k)→Sync P m0 n B0 w0 c' β' a' w'→Q .normal a' w')→RegAny P l Q a w):=by
 unfold drawS at h
 rw [cond_eq_ite] at h
 split at h
 · rename_i hB
   rw [Bool.and_eq_true] at hB
   obtain ⟨N,hN⟩:∃ N,N=nOf Ns rid l.length:=⟨_,rfl⟩
   rw [← hN] at hB h
   split at h
   · rename_i hsF obF evF csF hh
     obtain ⟨hu2,S,s1,s2,s3,⟨_,s4⟩,⟨obx,s5⟩,s6,s7⟩:=headS_spec hh hcq (fun x hx=>by cases hx) huq
     obtain ⟨t1,t2⟩:=seqS_ok h
     refine ⟨fun f hf=>t1 f (s6 f hf),fun hg B0 w0 β0 a0 w sy Q hQ=>?_⟩
     have hok:=hB.1
     simp only [okR,Bool.and_eq_true,decide_eq_true_eq] at hok
     obtain ⟨⟨⟨⟨hdst,_⟩,hNl⟩,_⟩,_⟩:=hok
     have hdis:=distinct_of _ hdst
     have htl:(l.take N).length=N:=by rw [List.length_take]; omega
     rw [htl] at s2
     simp only [List.length_nil,Nat.zero_add] at s3 s7
     rw [htl] at s3
     have hcs:∀ f∈csF,∀ β,Eqs.ok (f β):=fun f hf β=>hg β f (t1 f hf)
     have hget:∀ i o,i<N→l[i]?=some o→(l.take N)[i]?=some o:=fun i o hi ho=>by rw [List.getElem?_take_of_lt hi]; exact ho
     have hst:∀ i,i<N→S i≤S (i+1):=fun i hi=>by
      obtain ⟨o,ho⟩:∃ o,(l.take N)[i]?=some o:=⟨_,List.getElem?_eq_getElem (by omega)⟩
      exact (s7 i o ho).1
     have hmon:∀ j i,i≤j→j≤N→S i≤S j:=by
      intro j
      induction j with
      | zero=>intro i hi _; rw [Nat.le_zero.1 hi]; exact Nat.le_refl _
      | succ j ih =>
       intro i hi hj
       rcases Nat.eq_or_lt_of_le hi with e | e
       · rw [e]; exact Nat.le_refl _
       · exact Nat.le_trans (ih i (by omega) (by omega)) (hst j (by omega))
     have hSl:∀ i,i≤N→S i≤obF.length:=fun i hi=>by rw [← s2]; exact hmon N i hi (Nat.le_refl _)
     have hn0:∀ i,i≤N→c.ob.length≤S i:=fun i hi=>by rw [← s1]; exact hmon i 0 (Nat.zero_le _) hi
     have hqb:∀ i,i<N→∀ h,hsF[i]?=some h→∀ k,h.q k=true→c.ob.length≤k→k<S (i+1):=by
      intro i
      induction i using Nat.strongRecOn with
      | ind i ih =>
       intro hi h hh k hk hkn
       obtain ⟨o,ho⟩:∃ o,(l.take N)[i]?=some o:=⟨_,List.getElem?_eq_getElem (by omega)⟩
       obtain ⟨_,_,_,_,_,_,h',b,k1,k2,k3,_⟩:=s7 i o ho
       rw [hh] at k1
       obtain rfl:=Option.some.inj k1
       rcases (k3 k).1 hk with hk | hk
       · obtain ⟨e,_,_,h2,k4,k5⟩:=waitsQ_iff.1 hk
         rw [List.getElem?_take] at k4
         split at k4
         · rename_i hlt
           exact Nat.lt_of_lt_of_le (ih e.on hlt (by omega) h2 k4 k k5 hkn) (hmon (i+1) (e.on+1) (by omega) (by omega))
         · cases k4
       · exact hk.2
     have hwq:∀ i,i<N→∀ es k,waitsQ (hsF.take i) es k=true→k<S i:=by
      intro i hi es k hk
      obtain ⟨e,_,_,h2,k4,k5⟩:=waitsQ_iff.1 hk
      rw [List.getElem?_take] at k4
      split at k4
      · rename_i hlt
        by_cases hkn:c.ob.length≤k
        · exact Nat.lt_of_lt_of_le (hqb e.on (by omega) h2 k4 k k5 hkn) (hmon i (e.on+1) (by omega) (by omega))
        · have:=hn0 i (by omega); omega
      · cases k4
     have hqi:∀ i,i<N→∀ es k,(c.q k||waitsQ (hsF.take i) es k)=true→k<(obF.take (S i)).length:=by
      intro i hi es k hk
      rw [List.length_take,Nat.min_eq_left (hSl i (by omega))]
      rw [Bool.or_eq_true] at hk
      rcases hk with hk | hk
      · have:=hcq k hk; have:=hn0 i (by omega); omega
      · exact hwq i hi es k hk
     have hxof:∀ i,i<N→∀ h,hsF[i]?=some h→h.x.of (fun k=>c.q k||h.q k)=true:=by
      intro i hi h hh
      obtain ⟨o,ho⟩:∃ o,(l.take N)[i]?=some o:=⟨_,List.getElem?_eq_getElem (by omega)⟩
      obtain ⟨_,_,_,_,_,_,h',b,k1,k2,k3,k4,k5,k6⟩:=s7 i o ho
      rw [hh] at k1
      obtain rfl:=Option.some.inj k1
      cases b with
      | false=>rw [(k6 rfl).1]; rfl
      | true =>
       obtain ⟨q',k,ev1,ev2,_,hop⟩:=k5 rfl
       obtain ⟨⟨_,o2,_,o4⟩,_⟩:=opS_ok hop (hqi i hi _)
       refine SV.of_mono (fun k hk=>?_) _ o4
       rcases (o2 k).1 hk with a | a
       · rw [Bool.or_eq_true] at a ⊢
         exact a.imp id fun a=>(k3 k).2 (.inl a)
       · rw [Bool.or_eq_true]
         refine .inr ((k3 k).2 (.inr ?_))
         rw [List.length_take,List.length_take,Nat.min_eq_left (hSl i (by omega)),Nat.min_eq_left (hSl (i+1) (by omega))] at a
         exact a
     have hex:∀ d d',(∀ i,i<N→d i=d' i)→exD c.ob.length N S d=exD c.ob.length N S d':=fun d d' hd=>by
      funext k
      rw [Bool.eq_iff_iff,exD_iff,exD_iff]
      constructor
      · rintro (x | ⟨i,x1,x2,x3⟩)
        · exact .inl x
        · exact .inr ⟨i,x1,by rw [← hd i x1]; exact x2,x3⟩
      · rintro (x | ⟨i,x1,x2,x3⟩)
        · exact .inl x
        · exact .inr ⟨i,x1,by rw [hd i x1]; exact x2,x3⟩
     refine wp_region_J N (fun d u w=>∃ β obj,(∀ k,k<c.ob.length→β k=β0 k)∧(∀ i o,i<N→d i=true→l[i]?=some o→∀ e∈o.after,Region.binds .any e=true→e.on<i∧d e.on=true) ∧
       Good B0 m0 w0 (exD c.ob.length N S d) obj β w∧(∀ k,exD c.ob.length N S d k=true→obj k=obF[k]?)∧(∀ i h,i<N→d i=true→hsF[i]?=some h→u i=h.x.den β∧h.x.of (exD c.ob.length N S d)=true)) hm hB.1 ?_ ?_ ?_ ?_
     ·
      intro u
      refine ⟨β0,fun k=>c.ob[k]?,fun _ _=>rfl,fun i o _ e=>(by cases e),(sy.good.on (Below.refl _ _).drew).view (fun k=>?_) (fun _ _=>rfl),fun k hk=>?_,fun i h _ e=>(by cases e)⟩
      · rw [Bool.eq_iff_iff,exD_iff,sy.q]
        exact ⟨fun x=>x.elim id (fun ⟨_,_,e,_⟩=>by cases e),.inl⟩
      · rcases exD_iff.1 hk with x | ⟨_,_,e,_⟩
        · rw [s5,List.getElem?_append_left x]
        · cases e
     ·
      rintro d d' u w hd ⟨β,obj,j1,j2,j3,j4,j5⟩
      rw [hex d d' hd] at j3 j4 j5
      exact ⟨β,obj,j1,fun i o hi hdi ho e he hb=>by
       obtain ⟨x1,x2⟩:=j2 i o hi (by rw [hd i hi]; exact hdi) ho e he hb
       exact ⟨x1,by rw [← hd e.on (by omega)]; exact x2⟩,j3,j4,fun i h hi hdi=>j5 i h hi (by rw [hd i hi]; exact hdi)⟩
     ·
      rintro d u w i o hi ho hdi hdeps ⟨β,obj,j1,j2,j3,j4,j5⟩
      obtain ⟨i1,i2,i3,i4,i5,i6,h,b,k1,k2,k3,k4,k5,k6⟩:=s7 i o (hget i o hi ho)
      have hclo:∀ m,m<N→d m=true→∀ h,hsF[m]?=some h→∀ k,h.q k=true→exD c.ob.length N S d k=true:=by
       intro m
       induction m using Nat.strongRecOn with
       | ind m ih =>
        intro hmN hdm h hh k hk
        obtain ⟨o',ho'⟩:∃ o,(l.take N)[m]?=some o:=⟨_,List.getElem?_eq_getElem (by omega)⟩
        obtain ⟨_,_,_,_,_,_,h',b,q1,q2,q3,_⟩:=s7 m o' ho'
        rw [hh] at q1
        obtain rfl:=Option.some.inj q1
        rw [List.getElem?_take_of_lt hmN] at ho'
        rcases (q3 k).1 hk with x | x
        · obtain ⟨e,e1,e2,h2,e3,e4⟩:=waitsQ_iff.1 x
          obtain ⟨e5,e6⟩:=j2 m o' hmN hdm ho' e (by simpa using e1) e2
          rw [List.getElem?_take_of_lt e5] at e3
          exact ih e.on e5 (by omega) e6 h2 e3 k e4
        · exact exD_iff.2 (.inr ⟨m,hmN,hdm,x⟩)
      have hdep2:∀ e∈o.after.toList,Region.binds .any e=true→e.on<i∧d e.on=true:=fun e he hb=>hdeps e (by simpa using he) hb
      have hqe:∀ k,(c.q k||waitsQ (hsF.take i) o.after.toList k)=true→exD c.ob.length N S d k=true:=fun k hk=>by
       rw [Bool.or_eq_true] at hk
       rcases hk with hk | hk
       · exact exD_iff.2 (.inl (hcq k hk))
       · obtain ⟨e,e1,e2,h2,e3,e4⟩:=waitsQ_iff.1 hk
         obtain ⟨e5,e6⟩:=hdep2 e e1 e2
         rw [List.getElem?_take_of_lt e5] at e3
         exact hclo e.on (by omega) e6 h2 e3 k e4
      have hfree:∀ k,S i≤k→k<S (i+1)→exD c.ob.length N S d k=false:=fun k x1 x2=>by
       refine Bool.eq_false_iff.2 fun e=>?_
       rcases exD_iff.1 e with x | ⟨j,y1,y2,y3,y4⟩
       · have:=hn0 i (by omega); omega
       · rcases Nat.lt_trichotomy j i with z | z | z
         · have:=hmon i (j+1) (by omega) (by omega); omega
         · rw [z,hdi] at y2; cases y2
         · have:=hmon j (i+1) (by omega) (by omega); omega
      have hslot:∀ t,(hasR (l.take N) t=false∨(waitsSl (hsF.take i) o.after.toList).any (fun p=>Nat.beq p.1 t)=true)→(fillR u (l.take N) 0 a0).tmps.getD t undef=(look (waitsSl (hsF.take i) o.after.toList++c.sl) t).den β ∧
        (look (waitsSl (hsF.take i) o.after.toList++c.sl) t).of (fun k=>c.q k||waitsQ (hsF.take i) o.after.toList k)=true:=by
       intro t ht
       cases hany:(waitsSl (hsF.take i) o.after.toList).any (fun p=>Nat.beq p.1 t) with
       | true =>
        obtain ⟨e,e1,e2,h2,e3,e4,e5⟩:=(look_waits (sl0:=c.sl)).1 hany
        obtain ⟨e6,e7⟩:=hdep2 e e1 e2
        rw [e5]
        have e3':=e3
        rw [List.getElem?_take_of_lt e6] at e3
        obtain ⟨o2,ho2⟩:∃ o,(l.take N)[e.on]?=some o:=⟨_,List.getElem?_eq_getElem (by omega)⟩
        obtain ⟨_,_,q3,_,_,_,h',b',q1,q2,_⟩:=s7 e.on o2 ho2
        rw [e3] at q1
        obtain rfl:=Option.some.inj q1
        have ht2:t<a0.tmps.size:=by
         rw [← q2,e4] at q3
         simp only [dstIn,Nat.blt_eq] at q3
         rw [sy.sl.1]; exact q3
        refine ⟨?_,SV.of_mono (fun k hk=>?_) _ (hxof e.on (by omega) h2 e3)⟩
        · rw [fillR_in u (l.take N) 0 e.on a0 o2 t hdis ho2 (by rw [← q2]; exact e4) ht2,Nat.zero_add]
          exact (j5 e.on h2 (by omega) e7 e3).1
        · rw [Bool.or_eq_true] at hk ⊢
          exact hk.imp id fun x=>waitsQ_iff.2 ⟨e,e1,e2,h2,e3',x⟩
       | false =>
        rcases ht with ht | ht
        · rw [(look_waits (sl0:=c.sl)).2 hany,fillR_out u t (l.take N) 0 a0 ht,sy.sl.2 t]
          exact ⟨SV.den_congr (fun k hk=>(j1 k (hcq k hk)).symm) _ (sy.of t),SV.of_mono (fun k hk=>by rw [hk]; rfl) _ (sy.of t)⟩
        · rw [hany] at ht; cases ht
      have hopd:∀ y∈o.op.operands,(fillR u (l.take N) 0 a0).eval y=evS β (waitsSl (hsF.take i) o.after.toList++c.sl) y∧slotOf (fun k=>c.q k||waitsQ (hsF.take i) o.after.toList k) (waitsSl (hsF.take i) o.after.toList++c.sl) y:=by
       intro y hy
       have hkn:=List.all_eq_true.1 i6 y (by simpa using hy)
       cases y with
       | tmp t =>
        simp only [knownIn,Bool.or_eq_true,Bool.not_eq_true'] at hkn
        exact hslot t hkn
       | const v=>exact ⟨rfl,trivial⟩
       | global g=>exact ⟨rfl,trivial⟩
       | func f=>exact ⟨rfl,trivial⟩
      have hwt:Region.wanted o (yielded l.toArray (fillR u (l.take N) 0 a0).tmps)=b:=by
       have hj:∀ j,o.guard.map (·.1)=some j→∃ e∈o.after.toList,Region.binds .any e=true∧e.on=j:=by
        intro j hg
        unfold guardIn at i5
        cases hgd:o.guard with
        | none=>rw [hgd] at hg; cases hg
        | some p =>
         obtain ⟨j',wb⟩:=p
         rw [hgd] at hg i5
         obtain rfl:=Option.some.inj hg
         obtain ⟨e,e1,e2⟩:=List.any_eq_true.1 i5
         rw [Bool.and_eq_true,Nat.beq_eq] at e2
         exact ⟨e,e1,e2⟩
       rw [wanted_congr (y':=yielded (l.take N).toArray (fillR u (l.take N) 0 a0).tmps)]
       · refine wanted_eq k4 fun j dd hg hdd=>⟨β,(hslot dd (.inr ?_)).1⟩
         obtain ⟨e,e1,e2,rfl⟩:=hj j hg
         obtain ⟨e6,e7⟩:=hdep2 e e1 e2
         obtain ⟨o2,ho2⟩:∃ o,(l.take N)[e.on]?=some o:=⟨_,List.getElem?_eq_getElem (by omega)⟩
         obtain ⟨_,_,q3,_,_,_,h',b',q1,q2,_⟩:=s7 e.on o2 ho2
         have hd2:o2.dst=some dd:=by simpa [ho2] using hdd
         have:∀ es:List Edge,e∈es→(waitsSl (hsF.take i) es).any (fun p=>Nat.beq p.1 dd)=true:=by
          intro es
          induction es with
          | nil=>intro x; cases x
          | cons x r ih =>
           intro hx
           unfold waitsSl
           rcases List.mem_cons.1 hx with rfl | hx
           · rw [e2,List.getElem?_take_of_lt e6,q1]
             simp only [q2,hd2,putS,List.any_cons]
             have:Nat.beq dd dd=true:=Nat.beq_refl dd
             rw [this,Bool.true_or]
           · split
             · rename_i h4 _ _
               cases hd4:h4.dst with
               | none=>simp only [putS]; exact ih hx
               | some d4=>simp only [putS,List.any_cons]; rw [ih hx,Bool.or_true]
             · exact ih hx
         exact this _ e1
       · intro j hg
         obtain ⟨e,e1,e2,rfl⟩:=hj j hg
         have:=(hdep2 e e1 e2).1
         unfold yielded
         simp only [List.getElem?_toArray]
         rw [List.getElem?_take_of_lt (by omega)]
      have hd':∀ k,exD c.ob.length N S (fun j=>d j||Nat.beq j i) k=rangeQ (exD c.ob.length N S d) (S i) (S (i+1)) k:=fun k=>by
       rw [Bool.eq_iff_iff,rangeQ_iff,exD_iff,exD_iff]
       constructor
       · rintro (x | ⟨j,x1,x2,x3⟩)
         · exact .inl (.inl x)
         · rw [Bool.or_eq_true] at x2
           rcases x2 with x2 | x2
           · exact .inl (.inr ⟨j,x1,x2,x3⟩)
           · rw [Nat.eq_of_beq_eq_true x2] at x3
             exact .inr x3
       · rintro ((x | ⟨j,x1,x2,x3⟩) | x)
         · exact .inl x
         · exact .inr ⟨j,x1,by rw [x2]; rfl,x3⟩
         · exact .inr ⟨i,hi,by rw [Bool.or_eq_true]; exact .inr (Nat.beq_refl i),x⟩
      have hmono':∀ k,exD c.ob.length N S d k=true→exD c.ob.length N S (fun j=>d j||Nat.beq j i) k=true:=fun k hk=>by rw [hd' k]; exact rangeQ_iff.2 (.inl hk)
      have hclosed:∀ i' o',i'<N→(d i'||Nat.beq i' i)=true→l[i']?=some o'→∀ e∈o'.after,Region.binds .any e=true→e.on<i'∧(d e.on||Nat.beq e.on i)=true:=by
       intro i' o' hi' hdi' ho' e he hb
       rw [Bool.or_eq_true] at hdi'
       rcases hdi' with x | x
       · obtain ⟨y1,y2⟩:=j2 i' o' hi' x ho' e he hb
         exact ⟨y1,by rw [y2]; rfl⟩
       · obtain rfl:=Nat.eq_of_beq_eq_true x
         rw [ho] at ho'
         obtain rfl:=Option.some.inj ho'
         obtain ⟨y1,y2⟩:=hdeps e he hb
         exact ⟨y1,by rw [y2]; rfl⟩
      rw [hwt]
      refine ⟨fun hb K hK=>?_,fun hb=>?_⟩
      · obtain ⟨q',kc,ev1,ev2,m1,hop⟩:=k5 hb
        obtain ⟨⟨o1,o2,_,o4⟩,o5⟩:=opS_ok hop (hqi i hi _)
        have hl1:(obF.take (S i)).length=S i:=by rw [List.length_take,Nat.min_eq_left (hSl i (by omega))]
        have hl2:(obF.take (S (i+1))).length=S (i+1):=by rw [List.length_take,Nat.min_eq_left (hSl (i+1) (by omega))]
        rw [hl1,hl2] at o5
        rw [hl1,hl2] at o2
        refine o5 (hcs kc m1) B0 w0 _ obj β w _ j3 (fun k hk=>⟨hqe k hk,?_⟩) hfree (by have:=sy.m0; have:=hn0 i (by omega); omega) (fun k j D D' hk hx hy=>?_) hopd i4 K Q fun β' w' obj' e1 e2 e3 g=>?_
        · rw [j4 k (hqe k hk),List.getElem?_take_of_lt (by have:=hqi i hi _ k hk; rw [hl1] at this; exact this)]
        · rw [j4 k hk] at hx
          rw [List.getElem?_take] at hy
          split at hy
          · rename_i hlt
            have:=hu2 _ _ _ _ _ hx hy
            rw [this,hfree _ (Nat.le_refl _) hlt] at hk
            cases hk
          · cases hy
        · have hag:∀ k,exD c.ob.length N S d k=true→β k=β' k:=fun k hk=>(e1 k (fun x=>by rw [hfree k x.1 x.2] at hk; cases hk)).symm
          refine hK _ w' ⟨β',obj',fun k hk=>?_,hclosed,g.view hd' (fun _ _=>rfl),fun k hk=>?_,fun j hj hjN hdj hh=>?_⟩
          · rw [e1 k (fun x=>by have:=hn0 i (by omega); omega)]
            exact j1 k hk
          · cases hq':q' k with
            | true =>
             rw [e2 k hq',List.getElem?_take_of_lt]
             rcases (o2 k).1 hq' with x | x
             · have:=hqi i hi _ k x; rw [hl1] at this; omega
             · exact x.2
            | false =>
             rw [e3 k hq']
             rw [hd' k] at hk
             rcases rangeQ_iff.1 hk with x | x
             · exact j4 k x
             · rw [(o2 k).2 (.inr x)] at hq'; cases hq'
          · by_cases e:j=i
            · subst e
              rw [hh] at k1
              obtain rfl:=Option.some.inj k1
              refine ⟨if_pos rfl,SV.of_mono (fun k hk=>?_) _ o4⟩
              rw [hd' k]
              rcases (o2 k).1 hk with x | x
              · exact rangeQ_iff.2 (.inl (hqe k x))
              · exact rangeQ_iff.2 (.inr x)
            · rw [Bool.or_eq_true] at hdj
              have hdj':d j=true:=hdj.elim id (fun x=>absurd (Nat.eq_of_beq_eq_true x) e)
              obtain ⟨x1,x2⟩:=j5 j hj hjN hdj' hh
              exact ⟨(if_neg e).trans (x1.trans (SV.den_congr hag _ x2)),SV.of_mono hmono' _ x2⟩
      · obtain ⟨x1,x2⟩:=k6 hb
        have hsame:∀ k,exD c.ob.length N S (fun j=>d j||Nat.beq j i) k=exD c.ob.length N S d k:=fun k=>by rw [hd' k,x2,rangeQ_self]
        refine ⟨β,obj,j1,hclosed,j3.view hsame (fun _ _=>rfl),fun k hk=>j4 k (by rw [← hsame k]; exact hk),fun j hj hjN hdj hh=>?_⟩
        by_cases e:j=i
        · subst e
          rw [hh] at k1
          obtain rfl:=Option.some.inj k1
          rw [x1]
          exact ⟨if_pos rfl,rfl⟩
        · rw [Bool.or_eq_true] at hdj
          have hdj':d j=true:=hdj.elim id (fun x=>absurd (Nat.eq_of_beq_eq_true x) e)
          obtain ⟨y1,y2⟩:=j5 j hj hjN hdj' hh
          exact ⟨(if_neg e).trans y1,SV.of_mono hmono' _ y2⟩
     ·
      rintro u w ⟨β,obj,j1,j2,j3,j4,j5⟩
      have hall:∀ k,exD c.ob.length N S (fun _=>true) k=true↔k<obF.length:=fun k=>by
       rw [exD_iff]
       constructor
       · rintro (x | ⟨i,x1,_,x3,x4⟩)
         · have:=hn0 N (Nat.le_refl _); omega
         · have:=hSl (i+1) (by omega); omega
       · intro x
         by_cases e:k<c.ob.length
         · exact .inl e
         · obtain ⟨i,y1,y2⟩:=between (S:=S) (N:=N) (k:=k) (by omega) (by omega)
           exact .inr ⟨i,y1,rfl,y2⟩
      have hrq:∀ k,rangeQ c.q c.ob.length obF.length k=exD c.ob.length N S (fun _=>true) k:=fun k=>by
       rw [Bool.eq_iff_iff,rangeQ_iff,hall,sy.q]
       have:=hn0 N (Nat.le_refl _)
       constructor
       · rintro (x | x)
         · omega
         · exact x.2
       · intro x
         by_cases e:k<c.ob.length
         · exact .inl e
         · exact .inr ⟨by omega,x⟩
      have hh:∀ i o h,(l.take N)[i]?=some o→hsF[i]?=some h→h.dst=o.dst∧dstIn n o.dst=true∧u (0+i)=h.x.den β:=by
       intro i o h ho hh
       obtain ⟨_,_,q3,_,_,_,h',b',q1,q2,_⟩:=s7 i o ho
       rw [hh] at q1
       obtain rfl:=Option.some.inj q1
       have hi:i<N:=by rw [← htl]; exact (List.getElem?_eq_some_iff.1 ho).1
       rw [Nat.zero_add]
       exact ⟨q2,q3,(j5 i h hi rfl hh).1⟩
      have hcong:∀ k,c.q k=true→β0 k=β k:=fun k hk=>(j1 k (hcq k hk)).symm
      have hs2:Sync P m0 n B0 w0 ⟨putsH hsF c.sl,rangeQ c.q c.ob.length obF.length,obF,evF,csF⟩ β (fillR u (l.take N) 0 a0) w:=by
       refine ⟨j3.view hrq (fun k hk=>(j4 k hk).symm),fun k=>by dsimp only; rw [hrq k]; exact hall k,putsH_ok (by rw [htl,s3]) hh (sy.sl.congr sy.of hcong),putsH_of (fun h hm=>?_) (fun t=>SV.of_mono (fun k hk=>rangeQ_iff.2 (.inl hk)) _ (sy.of t)),?_,by rw [fillR_defers]; exact sy.defers,hu2⟩
       · obtain ⟨i,hi⟩:=List.mem_iff_getElem?.1 hm
         have hiN:i<N:=by rw [← s3]; exact (List.getElem?_eq_some_iff.1 hi).1
         refine SV.of_mono (fun k hk=>?_) _ (j5 i h hiN rfl hi).2
         dsimp only; rw [hrq k]; exact hk
       · have:=sy.m0; have:=hn0 N (Nat.le_refl _); dsimp only; omega
      exact t2 hg hs2 Q fun β' a' w' e s=>hQ β' a' w' (fun k hk=>(e k hk).trans (j1 k (by have:=sy.m0; omega))) s
   · cases h
 · cases h
theorem kAt_mem:∀ {Z:List (Nat × Nat)} {i K:Nat},kAt Z i=some K→(i,K)∈Z
 | (s,k)::r,i,K,h=>by
  unfold kAt at h
  rw [cond_eq_ite] at h
  split at h
  · rename_i e
    rw [Nat.beq_eq] at e
    rw [← e,← Option.some.inj h]
    exact List.mem_cons_self ..
  · exact List.mem_cons_of_mem _ (kAt_mem h)
theorem zOf_mem:∀ {Z:List (Nat × Nat)} {z k:Nat},zOf Z k=some z→(z,k)∈Z
 | (s,K)::r,z,k,h=>by
  unfold zOf at h
  rw [cond_eq_ite] at h
  split at h
  · rename_i e
    rw [Nat.beq_eq] at e
    rw [← e,← Option.some.inj h]
    exact List.mem_cons_self ..
  · exact List.mem_cons_of_mem _ (zOf_mem h)
theorem eqOpt_eq {x:Option Nat} {k:Nat} (h:eqOpt x k=true):x=some k:=by
 cases x with
 | none=>cases h
 | some y=>rw [Nat.eq_of_beq_eq_true h]
theorem okZ_k {Z:List (Nat × Nat)} {N z K:Nat} (h:okZ Z N=true) (hk:kAt Z z=some K):z<N∧zOf Z K=some z:=by
 have:=List.all_eq_true.1 h _ (kAt_mem hk)
 simp only [Bool.and_eq_true,Nat.blt_eq] at this
 exact ⟨this.1,eqOpt_eq this.2.2⟩
theorem okZ_z {Z:List (Nat × Nat)} {N z K:Nat} (h:okZ Z N=true) (hk:zOf Z K=some z):z<N∧kAt Z z=some K:=by
 have:=List.all_eq_true.1 h _ (zOf_mem hk)
 simp only [Bool.and_eq_true,Nat.blt_eq] at this
 exact ⟨this.1,eqOpt_eq this.2.1⟩
theorem isZ_none {Z:List (Nat × Nat)} {k:Nat} (h:isZ Z k=false):zOf Z k=none:=by
 unfold isZ at h
 split at h
 · cases h
 · assumption
def vw (Z:List (Nat × Nat)) (X:Nat→Option Ob) (d:Nat→Bool) (ob:List Ob) (k:Nat):Option Ob:=match zOf Z k with
 | some z=>bif d z then X z else ob[k]?
 | none=>ob[k]?
theorem vw_off {Z:List (Nat × Nat)} {X:Nat→Option Ob} {d:Nat→Bool} {ob:List Ob} {k:Nat} (h:∀ z,zOf Z k=some z→d z=false):vw Z X d ob k=ob[k]?:=by
 unfold vw
 split
 · rename_i z hz
   rw [h z hz]; rfl
 · rfl
theorem vw_on {Z:List (Nat × Nat)} {X:Nat→Option Ob} {d:Nat→Bool} {ob:List Ob} {k z:Nat} (h:zOf Z k=some z) (hd:d z=true):vw Z X d ob k=X z:=by
 unfold vw
 rw [h]
 dsimp only
 rw [hd]; rfl
theorem vw_congr {Z:List (Nat × Nat)} {X:Nat→Option Ob} {d d':Nat→Bool} {ob:List Ob} {k:Nat} (h:∀ z,zOf Z k=some z→d z=d' z):vw Z X d ob k=vw Z X d' ob k:=by
 unfold vw
 split
 · rename_i z hz
   rw [h z hz]
 · rfl
theorem vw_step {Z:List (Nat × Nat)} {X:Nat→Option Ob} {d:Nat→Bool} {ob:List Ob} {k i:Nat} (h:zOf Z k≠some i):vw Z X (fun j=>d j||Nat.beq j i) ob k=vw Z X d ob k :=
 vw_congr fun z hz=>by
  rw [show Nat.beq z i=false by rw [Bool.eq_false_iff,ne_eq,Nat.beq_eq]; rintro rfl; exact h hz,Bool.or_false]
theorem setZ_spec {X:Nat→Option Ob}:∀ {Z:List (Nat × Nat)} {ob ob':List Ob},setZ X Z ob=some ob'→ob'.length=ob.length∧(UniqAl ob→UniqAl ob')∧∀ k,k<ob.length→ob'[k]?=vw Z X (fun _=>true) ob k
 | [],ob,ob',h=>by
  simp only [setZ] at h
  obtain rfl:=Option.some.inj h
  exact ⟨rfl,id,fun _ _=>rfl⟩
 | (z,K)::r,ob,ob',h=>by
  simp only [setZ] at h
  split at h
  · rename_i ob1 Y h1 h2
    rw [cond_eq_ite] at h
    split at h
    · rename_i hY
      obtain rfl:=Option.some.inj h
      obtain ⟨i1,i2,i3⟩:=setZ_spec h1
      refine ⟨by rw [List.length_set,i1],fun hu=>(i2 hu).set K hY,fun k hk=>?_⟩
      rw [List.getElem?_set]
      unfold vw
      unfold zOf
      by_cases e:K=k
      · subst e
        rw [if_pos rfl,if_pos (by omega),show Nat.beq K K=true from Nat.beq_refl K]
        dsimp only [cond_true]
        exact h2.symm
      · rw [if_neg e,show Nat.beq K k=false by rw [Bool.eq_false_iff,ne_eq,Nat.beq_eq]; exact e]
        exact i3 k hk
    · cases h
  · cases h
theorem drawS2_ok {P:Program} {m0 n N:Nat} {Z:List (Nat × Nat)} {l:List Oper} {c c':Cf P} (hm:P.follows .mixedOrders=true) (h:drawS2 P m0 n N Z l c=some c') (hcq:∀ k,c.q k=true→k<c.ob.length) (huq:UniqAl c.ob):(∀ f∈c.cs,f∈c'.cs)∧(c'.good→∀ {B0:Bd} {w0:World} {β:Env} {a:Act} {w:World},Sync P m0 n B0 w0 c β a w →
  ∀ (Q:Exit→Act→World→Prop),(∀ β' a' w',(∀ k,k<B0.k→β' k=β k)→Sync P m0 n B0 w0 c' β' a' w'→Q .normal a' w')→RegAny P l Q a w):=by
 unfold drawS2 at h
 rw [cond_eq_ite] at h
 split at h
 · rename_i hB
   rw [Bool.and_eq_true,Bool.and_eq_true] at hB
   obtain ⟨hB,hZ⟩:=hB
   split at h
   · rename_i hsF obF X evF csF hh
     split at h
     rotate_left
     · cases h
     rename_i obZ hset
     obtain ⟨hlenZ,huqZ,hgetZ⟩:=setZ_spec hset
     obtain ⟨hu2,_,S,s1,s2,s3,⟨_,s4⟩,⟨obx,s5⟩,s6,s7⟩:=headS2_spec hh hcq (fun x hx=>by cases hx) huq
     obtain ⟨t1,t2⟩:=seqS_ok h
     refine ⟨fun f hf=>t1 f (s6 f hf),fun hg B0 w0 β0 a0 w sy Q hQ=>?_⟩
     have hok:=hB.1
     simp only [okR,Bool.and_eq_true,decide_eq_true_eq] at hok
     obtain ⟨⟨⟨⟨hdst,_⟩,hNl⟩,_⟩,_⟩:=hok
     have hdis:=distinct_of _ hdst
     have htl:(l.take N).length=N:=by rw [List.length_take]; omega
     rw [htl] at s2
     simp only [List.length_nil,Nat.zero_add] at s3 s7
     rw [htl] at s3
     have hcs:∀ f∈csF,∀ β,Eqs.ok (f β):=fun f hf β=>hg β f (t1 f hf)
     have hget:∀ i o,i<N→l[i]?=some o→(l.take N)[i]?=some o:=fun i o hi ho=>by rw [List.getElem?_take_of_lt hi]; exact ho
     have hst:∀ i,i<N→S i≤S (i+1):=fun i hi=>by
      obtain ⟨o,ho⟩:∃ o,(l.take N)[i]?=some o:=⟨_,List.getElem?_eq_getElem (by omega)⟩
      exact (s7 i o ho).1
     have hmon:∀ j i,i≤j→j≤N→S i≤S j:=by
      intro j
      induction j with
      | zero=>intro i hi _; rw [Nat.le_zero.1 hi]; exact Nat.le_refl _
      | succ j ih =>
       intro i hi hj
       rcases Nat.eq_or_lt_of_le hi with e | e
       · rw [e]; exact Nat.le_refl _
       · exact Nat.le_trans (ih i (by omega) (by omega)) (hst j (by omega))
     have hSl:∀ i,i≤N→S i≤obF.length:=fun i hi=>by rw [← s2]; exact hmon N i hi (Nat.le_refl _)
     have hn0:∀ i,i≤N→c.ob.length≤S i:=fun i hi=>by rw [← s1]; exact hmon i 0 (Nat.zero_le _) hi
     have hqb:∀ i,i<N→∀ h,hsF[i]?=some h→∀ k,h.q k=true→c.ob.length≤k→k<S (i+1):=by
      intro i
      induction i using Nat.strongRecOn with
      | ind i ih =>
       intro hi h hh k hk hkn
       obtain ⟨o,ho⟩:∃ o,(l.take N)[i]?=some o:=⟨_,List.getElem?_eq_getElem (by omega)⟩
       obtain ⟨_,_,_,_,_,_,h',b,k1,k2,k3,_⟩:=s7 i o ho
       rw [hh] at k1
       obtain rfl:=Option.some.inj k1
       rcases (k3 k).1 hk with hk | hk
       · obtain ⟨e,_,_,h2,k4,k5⟩:=waitsQ_iff.1 hk
         rw [List.getElem?_take] at k4
         split at k4
         · rename_i hlt
           exact Nat.lt_of_lt_of_le (ih e.on hlt (by omega) h2 k4 k k5 hkn) (hmon (i+1) (e.on+1) (by omega) (by omega))
         · cases k4
       · exact hk.2
     have hwq:∀ i,i<N→∀ es k,waitsQ (hsF.take i) es k=true→k<S i:=by
      intro i hi es k hk
      obtain ⟨e,_,_,h2,k4,k5⟩:=waitsQ_iff.1 hk
      rw [List.getElem?_take] at k4
      split at k4
      · rename_i hlt
        by_cases hkn:c.ob.length≤k
        · exact Nat.lt_of_lt_of_le (hqb e.on (by omega) h2 k4 k k5 hkn) (hmon i (e.on+1) (by omega) (by omega))
        · have:=hn0 i (by omega); omega
      · cases k4
     have hqi:∀ i,i<N→∀ es k,(c.q k||waitsQ (hsF.take i) es k)=true→k<(obF.take (S i)).length:=by
      intro i hi es k hk
      rw [List.length_take,Nat.min_eq_left (hSl i (by omega))]
      rw [Bool.or_eq_true] at hk
      rcases hk with hk | hk
      · have:=hcq k hk; have:=hn0 i (by omega); omega
      · exact hwq i hi es k hk
     have hxof:∀ i,i<N→∀ h,hsF[i]?=some h→h.x.of (fun k=>c.q k||h.q k)=true:=by
      intro i hi h hh
      obtain ⟨o,ho⟩:∃ o,(l.take N)[i]?=some o:=⟨_,List.getElem?_eq_getElem (by omega)⟩
      obtain ⟨_,_,_,_,_,_,h',b,k1,k2,k3,k4,kn,kz⟩:=s7 i o ho
      rw [hh] at k1
      obtain rfl:=Option.some.inj k1
      cases hiz:kAt Z i with
      | some K =>
       obtain ⟨_,_,_,q',ob2,k,ev1,ev2,Y,_,_,hop,_,_,k7,_,_⟩:=kz K hiz
       obtain ⟨⟨_,o2,_,o4⟩,_⟩:=opS_ok hop (fun k hk=>hqi i hi o.after.toList k (by rw [Bool.and_eq_true] at hk; exact hk.1))
       refine SV.of_mono (fun k hk=>?_) _ o4
       rcases (o2 k).1 hk with a | a
       · rw [Bool.and_eq_true] at a
         have a:=a.1
         rw [Bool.or_eq_true] at a ⊢
         exact a.imp id fun a=>(k3 k).2 (.inl a)
       · rw [List.length_take,Nat.min_eq_left (hSl i (by omega)),k7] at a
         omega
      | none =>
       obtain ⟨k5,k6⟩:=kn hiz
       cases b with
       | false=>rw [(k6 rfl).1]; rfl
       | true =>
        rcases k5 rfl with ⟨q',k,ev1,ev2,_,hop,_⟩ | ⟨_,kc,_,hp⟩
        rotate_left
        · refine SV.of_mono (fun k hk=>?_) _ (pureS_ok hp).1
          rw [Bool.or_eq_true] at hk ⊢
          exact hk.imp id fun a=>(k3 k).2 (.inl a)
        obtain ⟨⟨_,o2,_,o4⟩,_⟩:=opS_ok hop (fun k hk=>hqi i hi o.after.toList k (by rw [Bool.and_eq_true] at hk; exact hk.1))
        refine SV.of_mono (fun k hk=>?_) _ o4
        rcases (o2 k).1 hk with a | a
        · rw [Bool.and_eq_true] at a
          have a:=a.1
          rw [Bool.or_eq_true] at a ⊢
          exact a.imp id fun a=>(k3 k).2 (.inl a)
        · rw [Bool.or_eq_true]
          refine .inr ((k3 k).2 (.inr ?_))
          rw [List.length_take,List.length_take,Nat.min_eq_left (hSl i (by omega)),Nat.min_eq_left (hSl (i+1) (by omega))] at a
          exact a
     have hX:∀ z K,kAt Z z=some K→∃ Y,X z=some Y∧Y.own=true:=by
      intro z K hz
      have hzN:=(okZ_k hZ hz).1
      obtain ⟨oz,hoz⟩:∃ o,(l.take N)[z]?=some o:=⟨_,List.getElem?_eq_getElem (by omega)⟩
      obtain ⟨_,_,_,_,_,_,h',b,k1,k2,k3,k4,kn,kz⟩:=s7 z oz hoz
      obtain ⟨_,_,_,q',ob2,k,ev1,ev2,Y,_,_,_,_,k6,_,k8,_⟩:=kz K hz
      exact ⟨Y,k8,k6⟩
     have hex:∀ d d',(∀ i,i<N→d i=d' i)→exD c.ob.length N S d=exD c.ob.length N S d':=fun d d' hd=>by
      funext k
      rw [Bool.eq_iff_iff,exD_iff,exD_iff]
      constructor
      · rintro (x | ⟨i,x1,x2,x3⟩)
        · exact .inl x
        · exact .inr ⟨i,x1,by rw [← hd i x1]; exact x2,x3⟩
      · rintro (x | ⟨i,x1,x2,x3⟩)
        · exact .inl x
        · exact .inr ⟨i,x1,by rw [hd i x1]; exact x2,x3⟩
     refine wp_region_J N (fun d u w=>∃ β obj,(∀ k,k<c.ob.length→β k=β0 k)∧(∀ i o,i<N→d i=true→l[i]?=some o→∀ e∈o.after,Region.binds .any e=true→e.on<i∧d e.on=true) ∧
       Good B0 m0 w0 (exD c.ob.length N S d) obj β w∧(∀ k,exD c.ob.length N S d k=true→obj k=vw Z X d obF k)∧(∀ i h,i<N→d i=true→hsF[i]?=some h→u i=h.x.den β∧h.x.of (exD c.ob.length N S d)=true)∧(∀ z K,kAt Z z=some K→d z=true→exD c.ob.length N S d K=true)) hm hB.1 ?_ ?_ ?_ ?_
     ·
      intro u
      refine ⟨β0,fun k=>c.ob[k]?,fun _ _=>rfl,fun i o _ e=>(by cases e),(sy.good.on (Below.refl _ _).drew).view (fun k=>?_) (fun _ _=>rfl),fun k hk=>?_,fun i h _ e=>(by cases e),fun z K _ e=>(by cases e)⟩
      · rw [Bool.eq_iff_iff,exD_iff,sy.q]
        exact ⟨fun x=>x.elim id (fun ⟨_,_,e,_⟩=>by cases e),.inl⟩
      · rcases exD_iff.1 hk with x | ⟨_,_,e,_⟩
        · rw [vw_off fun _ _=>rfl,s5,List.getElem?_append_left x]
        · cases e
     ·
      rintro d d' u w hd ⟨β,obj,j1,j2,j3,j4,j5,j6⟩
      rw [hex d d' hd] at j3 j4 j5 j6
      exact ⟨β,obj,j1,fun i o hi hdi ho e he hb=>by
       obtain ⟨x1,x2⟩:=j2 i o hi (by rw [hd i hi]; exact hdi) ho e he hb
       exact ⟨x1,by rw [← hd e.on (by omega)]; exact x2⟩,j3,fun k hk=>(j4 k hk).trans (vw_congr fun z hz=>hd z (okZ_z hZ hz).1),fun i h hi hdi=>j5 i h hi (by rw [hd i hi]; exact hdi),fun z K hz hdz=>j6 z K hz (by rw [hd z (okZ_k hZ hz).1]; exact hdz)⟩
     ·
      rintro d u w i o hi ho hdi hdeps ⟨β,obj,j1,j2,j3,j4,j5,j6⟩
      obtain ⟨i1,i2,i3,i4,i5,i6,h,b,k1,k2,k3,k4,kn,kz⟩:=s7 i o (hget i o hi ho)
      have hclo:∀ m,m<N→d m=true→∀ h,hsF[m]?=some h→∀ k,h.q k=true→exD c.ob.length N S d k=true:=by
       intro m
       induction m using Nat.strongRecOn with
       | ind m ih =>
        intro hmN hdm h hh k hk
        obtain ⟨o',ho'⟩:∃ o,(l.take N)[m]?=some o:=⟨_,List.getElem?_eq_getElem (by omega)⟩
        obtain ⟨_,_,_,_,_,_,h',b,q1,q2,q3,_⟩:=s7 m o' ho'
        rw [hh] at q1
        obtain rfl:=Option.some.inj q1
        rw [List.getElem?_take_of_lt hmN] at ho'
        rcases (q3 k).1 hk with x | x
        · obtain ⟨e,e1,e2,h2,e3,e4⟩:=waitsQ_iff.1 x
          obtain ⟨e5,e6⟩:=j2 m o' hmN hdm ho' e (by simpa using e1) e2
          rw [List.getElem?_take_of_lt e5] at e3
          exact ih e.on e5 (by omega) e6 h2 e3 k e4
        · exact exD_iff.2 (.inr ⟨m,hmN,hdm,x⟩)
      have hdep2:∀ e∈o.after.toList,Region.binds .any e=true→e.on<i∧d e.on=true:=fun e he hb=>hdeps e (by simpa using he) hb
      have hqe:∀ k,(c.q k||waitsQ (hsF.take i) o.after.toList k)=true→exD c.ob.length N S d k=true:=fun k hk=>by
       rw [Bool.or_eq_true] at hk
       rcases hk with hk | hk
       · exact exD_iff.2 (.inl (hcq k hk))
       · obtain ⟨e,e1,e2,h2,e3,e4⟩:=waitsQ_iff.1 hk
         obtain ⟨e5,e6⟩:=hdep2 e e1 e2
         rw [List.getElem?_take_of_lt e5] at e3
         exact hclo e.on (by omega) e6 h2 e3 k e4
      have hfree:∀ k,S i≤k→k<S (i+1)→exD c.ob.length N S d k=false:=fun k x1 x2=>by
       refine Bool.eq_false_iff.2 fun e=>?_
       rcases exD_iff.1 e with x | ⟨j,y1,y2,y3,y4⟩
       · have:=hn0 i (by omega); omega
       · rcases Nat.lt_trichotomy j i with z | z | z
         · have:=hmon i (j+1) (by omega) (by omega); omega
         · rw [z,hdi] at y2; cases y2
         · have:=hmon j (i+1) (by omega) (by omega); omega
      have hslot:∀ t,(hasR (l.take N) t=false∨(waitsSl (hsF.take i) o.after.toList).any (fun p=>Nat.beq p.1 t)=true)→(fillR u (l.take N) 0 a0).tmps.getD t undef=(look (waitsSl (hsF.take i) o.after.toList++c.sl) t).den β ∧
        (look (waitsSl (hsF.take i) o.after.toList++c.sl) t).of (fun k=>c.q k||waitsQ (hsF.take i) o.after.toList k)=true:=by
       intro t ht
       cases hany:(waitsSl (hsF.take i) o.after.toList).any (fun p=>Nat.beq p.1 t) with
       | true =>
        obtain ⟨e,e1,e2,h2,e3,e4,e5⟩:=(look_waits (sl0:=c.sl)).1 hany
        obtain ⟨e6,e7⟩:=hdep2 e e1 e2
        rw [e5]
        have e3':=e3
        rw [List.getElem?_take_of_lt e6] at e3
        obtain ⟨o2,ho2⟩:∃ o,(l.take N)[e.on]?=some o:=⟨_,List.getElem?_eq_getElem (by omega)⟩
        obtain ⟨_,_,q3,_,_,_,h',b',q1,q2,_⟩:=s7 e.on o2 ho2
        rw [e3] at q1
        obtain rfl:=Option.some.inj q1
        have ht2:t<a0.tmps.size:=by
         rw [← q2,e4] at q3
         simp only [dstIn,Nat.blt_eq] at q3
         rw [sy.sl.1]; exact q3
        refine ⟨?_,SV.of_mono (fun k hk=>?_) _ (hxof e.on (by omega) h2 e3)⟩
        · rw [fillR_in u (l.take N) 0 e.on a0 o2 t hdis ho2 (by rw [← q2]; exact e4) ht2,Nat.zero_add]
          exact (j5 e.on h2 (by omega) e7 e3).1
        · rw [Bool.or_eq_true] at hk ⊢
          exact hk.imp id fun x=>waitsQ_iff.2 ⟨e,e1,e2,h2,e3',x⟩
       | false =>
        rcases ht with ht | ht
        · rw [(look_waits (sl0:=c.sl)).2 hany,fillR_out u t (l.take N) 0 a0 ht,sy.sl.2 t]
          exact ⟨SV.den_congr (fun k hk=>(j1 k (hcq k hk)).symm) _ (sy.of t),SV.of_mono (fun k hk=>by rw [hk]; rfl) _ (sy.of t)⟩
        · rw [hany] at ht; cases ht
      have hopd:∀ y∈o.op.operands,(fillR u (l.take N) 0 a0).eval y=evS β (waitsSl (hsF.take i) o.after.toList++c.sl) y∧slotOf (fun k=>c.q k||waitsQ (hsF.take i) o.after.toList k) (waitsSl (hsF.take i) o.after.toList++c.sl) y:=by
       intro y hy
       have hkn:=List.all_eq_true.1 i6 y (by simpa using hy)
       cases y with
       | tmp t =>
        simp only [knownIn,Bool.or_eq_true,Bool.not_eq_true'] at hkn
        exact hslot t hkn
       | const v=>exact ⟨rfl,trivial⟩
       | global g=>exact ⟨rfl,trivial⟩
       | func f=>exact ⟨rfl,trivial⟩
      have hwt:Region.wanted o (yielded l.toArray (fillR u (l.take N) 0 a0).tmps)=b:=by
       have hj:∀ j,o.guard.map (·.1)=some j→∃ e∈o.after.toList,Region.binds .any e=true∧e.on=j:=by
        intro j hg
        unfold guardIn at i5
        cases hgd:o.guard with
        | none=>rw [hgd] at hg; cases hg
        | some p =>
         obtain ⟨j',wb⟩:=p
         rw [hgd] at hg i5
         obtain rfl:=Option.some.inj hg
         obtain ⟨e,e1,e2⟩:=List.any_eq_true.1 i5
         rw [Bool.and_eq_true,Nat.beq_eq] at e2
         exact ⟨e,e1,e2⟩
       rw [wanted_congr (y':=yielded (l.take N).toArray (fillR u (l.take N) 0 a0).tmps)]
       · refine wanted_eq k4 fun j dd hg hdd=>⟨β,(hslot dd (.inr ?_)).1⟩
         obtain ⟨e,e1,e2,rfl⟩:=hj j hg
         obtain ⟨e6,e7⟩:=hdep2 e e1 e2
         obtain ⟨o2,ho2⟩:∃ o,(l.take N)[e.on]?=some o:=⟨_,List.getElem?_eq_getElem (by omega)⟩
         obtain ⟨_,_,q3,_,_,_,h',b',q1,q2,_⟩:=s7 e.on o2 ho2
         have hd2:o2.dst=some dd:=by simpa [ho2] using hdd
         have:∀ es:List Edge,e∈es→(waitsSl (hsF.take i) es).any (fun p=>Nat.beq p.1 dd)=true:=by
          intro es
          induction es with
          | nil=>intro x; cases x
          | cons x r ih =>
           intro hx
           unfold waitsSl
           rcases List.mem_cons.1 hx with rfl | hx
           · rw [e2,List.getElem?_take_of_lt e6,q1]
             simp only [q2,hd2,putS,List.any_cons]
             have:Nat.beq dd dd=true:=Nat.beq_refl dd
             rw [this,Bool.true_or]
           · split
             · rename_i h4 _ _
               cases hd4:h4.dst with
               | none=>simp only [putS]; exact ih hx
               | some d4=>simp only [putS,List.any_cons]; rw [ih hx,Bool.or_true]
             · exact ih hx
         exact this _ e1
       · intro j hg
         obtain ⟨e,e1,e2,rfl⟩:=hj j hg
         have:=(hdep2 e e1 e2).1
         unfold yielded
         simp only [List.getElem?_toArray]
         rw [List.getElem?_take_of_lt (by omega)]
      have hd':∀ k,exD c.ob.length N S (fun j=>d j||Nat.beq j i) k=rangeQ (exD c.ob.length N S d) (S i) (S (i+1)) k:=fun k=>by
       rw [Bool.eq_iff_iff,rangeQ_iff,exD_iff,exD_iff]
       constructor
       · rintro (x | ⟨j,x1,x2,x3⟩)
         · exact .inl (.inl x)
         · rw [Bool.or_eq_true] at x2
           rcases x2 with x2 | x2
           · exact .inl (.inr ⟨j,x1,x2,x3⟩)
           · rw [Nat.eq_of_beq_eq_true x2] at x3
             exact .inr x3
       · rintro ((x | ⟨j,x1,x2,x3⟩) | x)
         · exact .inl x
         · exact .inr ⟨j,x1,by rw [x2]; rfl,x3⟩
         · exact .inr ⟨i,hi,by rw [Bool.or_eq_true]; exact .inr (Nat.beq_refl i),x⟩
      have hmono':∀ k,exD c.ob.length N S d k=true→exD c.ob.length N S (fun j=>d j||Nat.beq j i) k=true:=fun k hk=>by rw [hd' k]; exact rangeQ_iff.2 (.inl hk)
      have hclosed:∀ i' o',i'<N→(d i'||Nat.beq i' i)=true→l[i']?=some o'→∀ e∈o'.after,Region.binds .any e=true→e.on<i'∧(d e.on||Nat.beq e.on i)=true:=by
       intro i' o' hi' hdi' ho' e he hb
       rw [Bool.or_eq_true] at hdi'
       rcases hdi' with x | x
       · obtain ⟨y1,y2⟩:=j2 i' o' hi' x ho' e he hb
         exact ⟨y1,by rw [y2]; rfl⟩
       · obtain rfl:=Nat.eq_of_beq_eq_true x
         rw [ho] at ho'
         obtain rfl:=Option.some.inj ho'
         obtain ⟨y1,y2⟩:=hdeps e he hb
         exact ⟨y1,by rw [y2]; rfl⟩
      rw [hwt]
      cases hiz:kAt Z i with
      | some K =>
       have hzK:=(okZ_k hZ hiz).2
       obtain ⟨rfl,e0,kK,q',ob2,kc,ev1,ev2,Y,m1,m2,hop,m3,m4,m5,m6,hsl⟩:=kz K hiz
       have hand:∀ {k:Nat},((c.q k||waitsQ (hsF.take i) o.after.toList k)&&(!isZ Z k||Nat.beq k K))=true→(c.q k||waitsQ (hsF.take i) o.after.toList k)=true∧(zOf Z k=none∨k=K):=fun {k} hk=>by
        rw [Bool.and_eq_true] at hk
        refine ⟨hk.1,?_⟩
        have h2:=hk.2
        rw [Bool.or_eq_true,Bool.not_eq_true'] at h2
        exact h2.imp isZ_none Nat.eq_of_beq_eq_true
       have hopdK:∀ y∈o.op.operands,(fillR u (l.take N) 0 a0).eval y=evS β (waitsSl (hsF.take i) o.after.toList++c.sl) y∧slotOf (fun k=>(c.q k||waitsQ (hsF.take i) o.after.toList k)&&(!isZ Z k||Nat.beq k K)) (waitsSl (hsF.take i) o.after.toList++c.sl) y:=fun y hy=>⟨(hopd y hy).1,slotOfB_ok (List.all_eq_true.1 hsl y (by simpa using hy))⟩
       obtain ⟨⟨o1,o2,_,o4⟩,o5⟩:=opS_ok hop (fun k hk=>hqi i hi o.after.toList k (hand hk).1)
       have hl1:(obF.take (S i)).length=S i:=by rw [List.length_take,Nat.min_eq_left (hSl i (by omega))]
       rw [hl1,m5] at o5
       rw [hl1,m5] at o2
       refine ⟨fun _ K1 hK=>?_,fun e=>by cases e⟩
       have hvis:∀ k,(zOf Z k=none∨k=K)→exD c.ob.length N S d k=true→obj k=obF[k]?:=fun k hk he=>by
        rw [j4 k he]
        refine vw_off fun z hz=>?_
        rcases hk with hk | rfl
        · rw [hk] at hz; cases hz
        · rw [hzK] at hz
          obtain rfl:=Option.some.inj hz
          exact hdi
       have hd2:∀ k,exD c.ob.length N S (fun j=>d j||Nat.beq j i) k=exD c.ob.length N S d k:=fun k=>by rw [hd' k,e0,rangeQ_self]
       refine o5 (hcs kc m1) B0 w0 _ obj β w _ j3 (fun k hk=>⟨hqe k (hand hk).1,?_⟩) (fun k x1 x2=>by omega) (by have:=sy.m0; have:=hn0 i (by omega); omega) (fun k j D D' hk hx hy=>?_) hopdK i4 K1 Q fun β' w' obj' e1 e2 e3 g=>?_
       · rw [hvis k (hand hk).2 (hqe k (hand hk).1),List.getElem?_take_of_lt (by have:=hqi i hi _ k (hand hk).1; rw [hl1] at this; exact this)]
       · rw [List.getElem?_eq_none (by omega)] at hy; cases hy
       · have hβ:∀ k,β' k=β k:=fun k=>e1 k (by omega)
         have hsame:=sameBut_ok (hcs _ m2 β)
         have hq'K:∀ k,q' k=true↔((c.q k||waitsQ (hsF.take i) o.after.toList k)&&(!isZ Z k||Nat.beq k K))=true:=fun k=>by
          rw [o2 k]
          exact ⟨fun x=>x.elim id (fun y=>by omega),.inl⟩
         have hKvis:((c.q K||waitsQ (hsF.take i) o.after.toList K)&&(!isZ Z K||Nat.beq K K))=true:=by
          rw [kK,show Nat.beq K K=true from Nat.beq_refl K,Bool.or_true]; rfl
         refine hK _ w' ⟨β',obj',fun k hk=>(hβ k).trans (j1 k hk),hclosed,g.view (fun k=>by rw [hd2 k,rangeQ_self]) (fun _ _=>rfl),fun k hk=>?_,fun j hj hjN hdj hh3=>?_,fun z2 K2 hz2 hdz2=>?_⟩
         · rw [hd2 k] at hk
           by_cases e:k=K
           · subst e
             rw [vw_on hzK (show (d i||Nat.beq i i)=true by rw [Nat.beq_refl,Bool.or_true]),m6,e2 k ((hq'K k).2 hKvis),m3]
           · rw [vw_step (fun hz=>e (by have:=(okZ_z hZ hz).2; rw [hiz] at this; exact (Option.some.inj this).symm))]
             cases hq':q' k with
             | true =>
              obtain ⟨v1,v2⟩:=hand ((hq'K k).1 hq')
              rw [e2 k hq',hsame k (by omega),List.getElem?_take_of_lt (by have:=hqi i hi _ k v1; rw [hl1] at this; exact this),← hvis k v2 hk]
              exact j4 k hk
             | false=>rw [e3 k hq']; exact j4 k hk
         · by_cases e:j=i
           · subst e
             rw [hh3] at k1
             obtain rfl:=Option.some.inj k1
             refine ⟨if_pos rfl,SV.of_mono (fun k hk=>?_) _ o4⟩
             rw [hd2 k]
             exact hqe k (hand ((hq'K k).1 hk)).1
           · rw [Bool.or_eq_true] at hdj
             have hdj':d j=true:=hdj.elim id (fun x=>absurd (Nat.eq_of_beq_eq_true x) e)
             obtain ⟨x1,x2⟩:=j5 j hj hjN hdj' hh3
             exact ⟨(if_neg e).trans (x1.trans (SV.den_congr (fun k _=>(hβ k).symm) _ x2)),SV.of_mono hmono' _ x2⟩
         · rw [hd2 K2]
           rw [Bool.or_eq_true] at hdz2
           rcases hdz2 with x | x
           · exact j6 z2 K2 hz2 x
           · obtain rfl:=Nat.eq_of_beq_eq_true x
             rw [hiz] at hz2
             obtain rfl:=Option.some.inj hz2
             exact hqe K kK
      | none =>
      obtain ⟨k5,k6⟩:=kn hiz
      have hand:∀ {k:Nat},((c.q k||waitsQ (hsF.take i) o.after.toList k)&&visZ (l.take N) Z i k)=true→(c.q k||waitsQ (hsF.take i) o.after.toList k)=true∧∀ z,zOf Z k=some z→d z=false:=fun {k} hk=>by
       rw [Bool.and_eq_true] at hk
       refine ⟨hk.1,fun z hz=>?_⟩
       have h2:=hk.2
       unfold visZ at h2
       rw [Bool.or_eq_true,Bool.not_eq_true'] at h2
       rcases h2 with h2 | h2
       · rw [isZ_none h2] at hz; cases hz
       · rw [hz] at h2
         dsimp only at h2
         have hzN:=(okZ_z hZ hz).1
         rw [List.getElem?_take_of_lt hzN] at h2
         cases hoz:l[z]? with
         | none=>rw [hoz] at h2; cases h2
         | some oz =>
          rw [hoz] at h2
          obtain ⟨e,e1,e2⟩:=List.any_eq_true.1 h2
          rw [Bool.and_eq_true,Nat.beq_eq] at e2
          refine Bool.eq_false_iff.2 fun hdz=>?_
          have:=(j2 z oz hzN hdz hoz e (by simpa using e1) e2.1).2
          rw [e2.2,hdi] at this
          cases this
      have hvw:∀ k,vw Z X (fun j=>d j||Nat.beq j i) obF k=vw Z X d obF k:=fun k=>vw_step fun hz=>by
       have:=(okZ_z hZ hz).2
       rw [hiz] at this
       cases this
      have hj6:∀ z2 K2,kAt Z z2=some K2→(d z2||Nat.beq z2 i)=true→d z2=true:=fun z2 K2 hz2 x=>by
       rw [Bool.or_eq_true] at x
       rcases x with x | x
       · exact x
       · obtain rfl:=Nat.eq_of_beq_eq_true x
         rw [hiz] at hz2; cases hz2
      refine ⟨fun hb K1 hK=>?_,fun hb=>?_⟩
      · rcases k5 hb with ⟨q',kc,ev1,ev2,m1,hop,hsl⟩ | ⟨x2,kc,m1,hp⟩
        rotate_left
        · obtain ⟨p1,p2⟩:=pureS_ok hp
          have hsame:∀ k,exD c.ob.length N S (fun j=>d j||Nat.beq j i) k=exD c.ob.length N S d k:=fun k=>by rw [hd' k,x2,rangeQ_self]
          have hrun:=p2 β (hcs kc m1 β) w
          have hev:execOp (fillR u (l.take N) 0 a0).eval o=execOp (evS β (waitsSl (hsF.take i) o.after.toList++c.sl)) o:=execOp_congr o (noSelect_of i4) fun y hy=>(hopd y hy).1
          unfold Oper.wp
          rw [hev,hrun]
          refine hK _ w ⟨β,obj,j1,hclosed,j3.view hsame (fun _ _=>rfl),fun k hk=>by rw [hvw k]; exact j4 k (by rw [← hsame k]; exact hk),fun j hj hjN hdj hh=>?_,fun z2 K2 hz2 hz=>hmono' K2 (j6 z2 K2 hz2 (hj6 z2 K2 hz2 hz))⟩
          by_cases e:j=i
          · subst e
            rw [hh] at k1
            obtain rfl:=Option.some.inj k1
            refine ⟨if_pos rfl,SV.of_mono (fun k hk=>?_) _ p1⟩
            rw [hsame k]
            exact hqe k hk
          · rw [Bool.or_eq_true] at hdj
            have hdj':d j=true:=hdj.elim id (fun x=>absurd (Nat.eq_of_beq_eq_true x) e)
            obtain ⟨y1,y2⟩:=j5 j hj hjN hdj' hh
            exact ⟨(if_neg e).trans y1,SV.of_mono hmono' _ y2⟩
        have hopdK:∀ y∈o.op.operands,(fillR u (l.take N) 0 a0).eval y=evS β (waitsSl (hsF.take i) o.after.toList++c.sl) y∧slotOf (fun k=>(c.q k||waitsQ (hsF.take i) o.after.toList k)&&visZ (l.take N) Z i k) (waitsSl (hsF.take i) o.after.toList++c.sl) y:=fun y hy=>⟨(hopd y hy).1,slotOfB_ok (List.all_eq_true.1 hsl y (by simpa using hy))⟩
        obtain ⟨⟨o1,o2,_,o4⟩,o5⟩:=opS_ok hop (fun k hk=>hqi i hi _ k (by rw [Bool.and_eq_true] at hk; exact hk.1))
        have hl1:(obF.take (S i)).length=S i:=by rw [List.length_take,Nat.min_eq_left (hSl i (by omega))]
        have hl2:(obF.take (S (i+1))).length=S (i+1):=by rw [List.length_take,Nat.min_eq_left (hSl (i+1) (by omega))]
        rw [hl1,hl2] at o5
        rw [hl1,hl2] at o2
        refine o5 (hcs kc m1) B0 w0 _ obj β w _ j3 (fun k hk=>⟨hqe k (hand hk).1,?_⟩) hfree (by have:=sy.m0; have:=hn0 i (by omega); omega) (fun k j D D' hk hx hy=>?_) hopdK i4 K1 Q fun β' w' obj' e1 e2 e3 g=>?_
        · rw [j4 k (hqe k (hand hk).1),vw_off (fun z hz=>(hand hk).2 z hz),List.getElem?_take_of_lt (by have:=hqi i hi _ k (hand hk).1; rw [hl1] at this; exact this)]
        · rw [j4 k hk] at hx
          replace hx:obF[k]?=some (.al j D):=by
           unfold vw at hx
           split at hx
           · rename_i z hz
             cases hdz:d z with
             | true =>
              rw [hdz] at hx
              obtain ⟨Y,y1,y2⟩:=hX z k (okZ_z hZ hz).2
              rw [cond_true,y1] at hx
              rw [Option.some.inj hx] at y2
              cases y2
             | false=>rw [hdz] at hx; exact hx
           · exact hx
          rw [List.getElem?_take] at hy
          split at hy
          · rename_i hlt
            have:=hu2 _ _ _ _ _ hx hy
            rw [this,hfree _ (Nat.le_refl _) hlt] at hk
            cases hk
          · cases hy
        · have hag:∀ k,exD c.ob.length N S d k=true→β k=β' k:=fun k hk=>(e1 k (fun x=>by rw [hfree k x.1 x.2] at hk; cases hk)).symm
          refine hK _ w' ⟨β',obj',fun k hk=>?_,hclosed,g.view hd' (fun _ _=>rfl),fun k hk=>?_,fun j hj hjN hdj hh=>?_,fun z2 K2 hz2 hz=>hmono' K2 (j6 z2 K2 hz2 (hj6 z2 K2 hz2 hz))⟩
          · rw [e1 k (fun x=>by have:=hn0 i (by omega); omega)]
            exact j1 k hk
          · rw [hvw k]
            cases hq':q' k with
            | true =>
             rw [e2 k hq',vw_off,List.getElem?_take_of_lt]
             · rcases (o2 k).1 hq' with x | x
               · have:=hqi i hi _ k (hand x).1; rw [hl1] at this; omega
               · exact x.2
             · intro z hz
               rcases (o2 k).1 hq' with x | x
               · exact (hand x).2 z hz
               · refine Bool.eq_false_iff.2 fun hdz=>?_
                 have:=j6 z k (okZ_z hZ hz).2 hdz
                 rw [hfree k x.1 x.2] at this
                 cases this
            | false =>
             rw [e3 k hq']
             rw [hd' k] at hk
             rcases rangeQ_iff.1 hk with x | x
             · exact j4 k x
             · rw [(o2 k).2 (.inr x)] at hq'; cases hq'
          · by_cases e:j=i
            · subst e
              rw [hh] at k1
              obtain rfl:=Option.some.inj k1
              refine ⟨if_pos rfl,SV.of_mono (fun k hk=>?_) _ o4⟩
              rw [hd' k]
              rcases (o2 k).1 hk with x | x
              · exact rangeQ_iff.2 (.inl (hqe k (hand x).1))
              · exact rangeQ_iff.2 (.inr x)
            · rw [Bool.or_eq_true] at hdj
              have hdj':d j=true:=hdj.elim id (fun x=>absurd (Nat.eq_of_beq_eq_true x) e)
              obtain ⟨x1,x2⟩:=j5 j hj hjN hdj' hh
              exact ⟨(if_neg e).trans (x1.trans (SV.den_congr hag _ x2)),SV.of_mono hmono' _ x2⟩
      · obtain ⟨x1,x2⟩:=k6 hb
        have hsame:∀ k,exD c.ob.length N S (fun j=>d j||Nat.beq j i) k=exD c.ob.length N S d k:=fun k=>by rw [hd' k,x2,rangeQ_self]
        refine ⟨β,obj,j1,hclosed,j3.view hsame (fun _ _=>rfl),fun k hk=>by rw [hvw k]; exact j4 k (by rw [← hsame k]; exact hk),fun j hj hjN hdj hh=>?_,fun z2 K2 hz2 hz=>hmono' K2 (j6 z2 K2 hz2 (hj6 z2 K2 hz2 hz))⟩
        by_cases e:j=i
        · subst e
          rw [hh] at k1
          obtain rfl:=Option.some.inj k1
          rw [x1]
          exact ⟨if_pos rfl,rfl⟩
        · rw [Bool.or_eq_true] at hdj
          have hdj':d j=true:=hdj.elim id (fun x=>absurd (Nat.eq_of_beq_eq_true x) e)
          obtain ⟨y1,y2⟩:=j5 j hj hjN hdj' hh
          exact ⟨(if_neg e).trans y1,SV.of_mono hmono' _ y2⟩
     ·
      rintro u w ⟨β,obj,j1,j2,j3,j4,j5,_⟩
      have hall:∀ k,exD c.ob.length N S (fun _=>true) k=true↔k<obF.length:=fun k=>by
       rw [exD_iff]
       constructor
       · rintro (x | ⟨i,x1,_,x3,x4⟩)
         · have:=hn0 N (Nat.le_refl _); omega
         · have:=hSl (i+1) (by omega); omega
       · intro x
         by_cases e:k<c.ob.length
         · exact .inl e
         · obtain ⟨i,y1,y2⟩:=between (S:=S) (N:=N) (k:=k) (by omega) (by omega)
           exact .inr ⟨i,y1,rfl,y2⟩
      have hrq:∀ k,rangeQ c.q c.ob.length obF.length k=exD c.ob.length N S (fun _=>true) k:=fun k=>by
       rw [Bool.eq_iff_iff,rangeQ_iff,hall,sy.q]
       have:=hn0 N (Nat.le_refl _)
       constructor
       · rintro (x | x)
         · omega
         · exact x.2
       · intro x
         by_cases e:k<c.ob.length
         · exact .inl e
         · exact .inr ⟨by omega,x⟩
      have hh:∀ i o h,(l.take N)[i]?=some o→hsF[i]?=some h→h.dst=o.dst∧dstIn n o.dst=true∧u (0+i)=h.x.den β:=by
       intro i o h ho hh
       obtain ⟨_,_,q3,_,_,_,h',b',q1,q2,_⟩:=s7 i o ho
       rw [hh] at q1
       obtain rfl:=Option.some.inj q1
       have hi:i<N:=by rw [← htl]; exact (List.getElem?_eq_some_iff.1 ho).1
       rw [Nat.zero_add]
       exact ⟨q2,q3,(j5 i h hi rfl hh).1⟩
      have hcong:∀ k,c.q k=true→β0 k=β k:=fun k hk=>(j1 k (hcq k hk)).symm
      have hs2:Sync P m0 n B0 w0 ⟨putsH hsF c.sl,rangeQ c.q c.ob.length obF.length,obZ,evF,csF⟩ β (fillR u (l.take N) 0 a0) w:=by
       refine ⟨j3.view hrq (fun k hk=>by
        rw [j4 k hk]
        exact hgetZ k ((hall k).1 hk)),fun k=>by dsimp only; rw [hrq k,hlenZ]; exact hall k,putsH_ok (by rw [htl,s3]) hh (sy.sl.congr sy.of hcong),putsH_of (fun h hm=>?_) (fun t=>SV.of_mono (fun k hk=>rangeQ_iff.2 (.inl hk)) _ (sy.of t)),?_,by rw [fillR_defers]; exact sy.defers,huqZ hu2⟩
       · obtain ⟨i,hi⟩:=List.mem_iff_getElem?.1 hm
         have hiN:i<N:=by rw [← s3]; exact (List.getElem?_eq_some_iff.1 hi).1
         refine SV.of_mono (fun k hk=>?_) _ (j5 i h hiN rfl hi).2
         dsimp only; rw [hrq k]; exact hk
       · have:=sy.m0; have:=hn0 N (Nat.le_refl _); dsimp only; rw [hlenZ]; omega
      exact t2 hg hs2 Q fun β' a' w' e s=>hQ β' a' w' (fun k hk=>(e k hk).trans (j1 k (by have:=sy.m0; omega))) s
   · cases h
 · cases h
end
section
open Go Go.RowKit
def Rounds (P:Program) (c:Code) (Q:Exit→Act→World→Prop) (a:Act) (w:World):Prop :=
 ∀ (b:Frame) (k:List Item) (cs:List Frame),∃ e a' w',Q e a' w'∧Arrives P (lone (b.at a (.code c::.inLoop c::k)) cs w) b k cs e a' w'
theorem rounds_loop {P:Program} {c:Code} {Q:Exit→Act→World→Prop} {a:Act} {w:World} (h:Rounds P c Q a w):(Code.loop c).wp P Q a w:=fun b k cs=>by
 obtain ⟨e,a',w',q,r⟩:=h b k cs
 exact ⟨e,a',w',q,.of_steps (.one step_loop) r⟩
theorem rounds_one {P:Program} {c:Code} {Q:Exit→Act→World→Prop} {a:Act} {w:World} (h:c.wp P (Exit.then (Rounds P c Q) Q) a w):Rounds P c Q a w:=fun b k cs=>by
 obtain ⟨e,a₁,w₁,hq,harr⟩:=h b (.inLoop c::k) cs
 cases e with
 | normal =>
  obtain ⟨e₂,a₂,w₂,hq₂,harr₂⟩:=hq b k cs
  exact ⟨e₂,a₂,w₂,hq₂,.of_steps (Steps.trans harr (.one step_inLoop)) harr₂⟩
 | exit i=>exact ⟨_,a₁,w₁,hq,.pass (x:=.inLoop c) rfl (fun _ _=>.inl (by simp)) harr⟩
 | goto l=>exact ⟨_,a₁,w₁,hq,.pass (x:=.inLoop c) rfl (fun _ _=>.inl (by simp)) harr⟩
 | ret=>exact ⟨_,a₁,w₁,hq,.pass (x:=.inLoop c) rfl (fun _ _=>.inl (by simp)) harr⟩
 | panic ch=>exact ⟨_,a₁,w₁,hq,.pass (x:=.inLoop c) rfl (fun _ _=>.inl (by simp)) harr⟩
 | outgrown=>exact ⟨_,a₁,w₁,hq,.pass (x:=.inLoop c) rfl (fun _ _=>.inl (by simp)) harr⟩
def post (P:Program) (Q:Exit→Act→World→Prop):List Kf→Exit→Act→World→Prop
 | []=>Q
 | .sq c::r=>Exit.then (c.wp P (post P Q r)) (post P Q r)
 | .bl i::r=>Exit.inBlock i (post P Q r)
 | .lp c::r=>Exit.then (Rounds P c (post P Q r)) (post P Q r)
 | .sc::r=>Exit.noGoto (post P Q r)
theorem post_ret {P:Program} {Q:Exit→Act→World→Prop} {a:Act} {w:World} (h:Q .ret a w):∀ ks,post P Q ks .ret a w
 | []=>h
 | .sq _::r=>post_ret h r
 | .bl _::r=>post_ret h r
 | .lp _::r=>post_ret h r
 | .sc::r=>post_ret h r
theorem post_exit {P:Program} {Q:Exit→Act→World→Prop} {a:Act} {w:World} {i:Nat}:∀ {ks r},popTo i ks=some r→post P Q r .normal a w→post P Q ks (.exit i) a w
 | [],_,h,_=>by cases h
 | .sq _::ks,r,h,k=>post_exit (ks:=ks) (r:=r) h k
 | .lp _::ks,r,h,k=>post_exit (ks:=ks) (r:=r) h k
 | .sc::ks,r,h,k=>post_exit (ks:=ks) (r:=r) h k
 | .bl j::ks,r,h,k=>by
  simp only [popTo,cond_eq_ite,Nat.beq_eq] at h
  simp only [post,Exit.inBlock]
  split at h
  · rename_i e
    obtain rfl:=Option.some.inj h
    rw [if_pos e.symm]
    exact k
  · rename_i e
    rw [if_neg (Ne.symm e)]
    exact post_exit (ks:=ks) h k
theorem Sync.cs {P:Program} {m0 n:Nat} {B0:Bd} {w0:World} {c:Cf P} {β:Env} {a:Act} {w:World} (h:Sync P m0 n B0 w0 c β a w) (x:List (Env→Eqs)):Sync P m0 n B0 w0 { c with cs:=x } β a w:=⟨h.good,h.q,h.sl,h.of,h.m0,h.defers,h.uq⟩
def Cf.full {P:Program} (c:Cf P):Prop:=(∀ k,c.q k=true↔k<c.ob.length)∧UniqAl c.ob
theorem opStep_full {P:Program} {m0 n:Nat} {ops:Array Oper} {o:Oper} {c c':Cf P} (h:opStep P m0 n true ops o c=some c') (hf:c.full):c'.full:=by
 unfold opStep at h
 rw [cond_eq_ite] at h
 split at h
 · split at h
   · split at h
     · rename_i x q ob ev k hop
       obtain rfl:=Option.some.inj h
       obtain ⟨⟨⟨h1,h2,h4⟩,_⟩,huq⟩:=opR_ok hop hf.1
       refine ⟨fun k=>?_,huq hf.2⟩
       dsimp only
       rw [h2 k,hf.1 k]
       constructor
       · rintro (a | a)
         · omega
         · exact a.2
       · intro a
         by_cases e:k<c.ob.length
         · exact .inl e
         · exact .inr ⟨by omega,a⟩
     · cases h
   · obtain rfl:=Option.some.inj h
     exact hf
   · cases h
 · cases h
theorem seqS_full {P:Program} {m0 n:Nat} {ops:Array Oper}:∀ {l:List Oper} {c c':Cf P},seqS P m0 n ops l c=some c'→c.full→c'.full
 | [],c,c',h,hf=>by obtain rfl:=Option.some.inj h; exact hf
 | o::r,c,c',h,hf=>by
  simp only [seqS] at h
  split at h
  · rename_i c1 h1
    exact seqS_full h (opStep_full h1 hf)
  · cases h
theorem drawS_full {P:Program} {m0 n rid:Nat} {Ns:List (Nat × Nat)} {l:List Oper} {c c':Cf P} (h:drawS P m0 n Ns rid l c=some c') (hf:c.full):c'.full:=by
 unfold drawS at h
 rw [cond_eq_ite] at h
 split at h
 · split at h
   · rename_i hsF obF evF csF hh
     refine seqS_full h ?_
     obtain ⟨hu2,S,s1,s2,_,_,⟨obx,s5⟩,_⟩:=headS_spec hh (fun k hk=>(hf.1 k).1 hk) (fun x hx=>by cases hx) hf.2
     refine ⟨fun k=>?_,hu2⟩
     dsimp only
     rw [rangeQ_iff,hf.1 k]
     have:obF.length=c.ob.length+obx.length:=by rw [s5,List.length_append]
     constructor
     · rintro (a | a)
       · omega
       · exact a.2
     · intro a
       by_cases e:k<c.ob.length
       · exact .inl e
       · exact .inr ⟨by omega,a⟩
   · cases h
 · cases h
theorem drawS2_full {P:Program} {m0 n N:Nat} {Z:List (Nat × Nat)} {l:List Oper} {c c':Cf P} (h:drawS2 P m0 n N Z l c=some c') (hf:c.full):c'.full:=by
 unfold drawS2 at h
 rw [cond_eq_ite] at h
 split at h
 · rename_i hB
   rw [Bool.and_eq_true,Bool.and_eq_true] at hB
   obtain ⟨hB,hZ⟩:=hB
   have hok:=hB.1
   simp only [okR,Bool.and_eq_true,decide_eq_true_eq] at hok
   obtain ⟨⟨⟨⟨_,_⟩,hNl⟩,_⟩,_⟩:=hok
   split at h
   · rename_i hsF obF X evF csF hh
     split at h
     rotate_left
     · cases h
     rename_i obZ hset
     obtain ⟨hlenZ,huqZ,hgetZ⟩:=setZ_spec hset
     refine seqS_full h ?_
     obtain ⟨hu2,_,S,s1,s2,_,_,⟨obx,s5⟩,_,s7⟩:=headS2_spec hh (fun k hk=>(hf.1 k).1 hk) (fun x hx=>by cases hx) hf.2
     refine ⟨fun k=>?_,huqZ hu2⟩
     dsimp only
     rw [rangeQ_iff,hf.1 k,hlenZ]
     have:obF.length=c.ob.length+obx.length:=by rw [s5,List.length_append]
     constructor
     · rintro (a | a)
       · omega
       · exact a.2
     · intro a
       by_cases e:k<c.ob.length
       · exact .inl e
       · exact .inr ⟨by omega,a⟩
   · cases h
 · cases h
theorem drawS1_full {P:Program} {m0 n rid:Nat} {Ns:List (Nat × Nat)} {l:List Oper} {c c':Cf P} (h:drawS1 P m0 n Ns rid l c=some c') (hf:c.full):c'.full:=by
 unfold drawS1 at h
 dsimp only at h
 rw [cond_eq_ite] at h
 split at h
 · rw [lit_eq,lit_eq] at h
   exact drawS2_full h hf
 · exact drawS_full h hf
theorem drawS1_ok {P:Program} {m0 n rid:Nat} {Ns:List (Nat × Nat)} {l:List Oper} {c c':Cf P} (hm:P.follows .mixedOrders=true) (h:drawS1 P m0 n Ns rid l c=some c') (hcq:∀ k,c.q k=true→k<c.ob.length) (huq:UniqAl c.ob):(∀ f∈c.cs,f∈c'.cs)∧(c'.good→∀ {B0:Bd} {w0:World} {β:Env} {a:Act} {w:World},Sync P m0 n B0 w0 c β a w →
  ∀ (Q:Exit→Act→World→Prop),(∀ β' a' w',(∀ k,k<B0.k→β' k=β k)→Sync P m0 n B0 w0 c' β' a' w'→Q .normal a' w')→RegAny P l Q a w):=by
 unfold drawS1 at h
 dsimp only at h
 rw [cond_eq_ite] at h
 split at h
 · rw [lit_eq,lit_eq] at h
   exact drawS2_ok hm h hcq huq
 · exact drawS_ok hm h hcq huq
def toShow (P:Program) (Q:Exit→Act→World→Prop) (oc:Option Code) (ks:List Kf) (a:Act) (w:World):Prop:=match oc with
 | some c=>c.wp P (post P Q ks) a w
 | none=>post P Q ks .normal a w
theorem runC_ok {P:Program} {m0 n:Nat} {Ns:List (Nat × Nat)} (hm:P.follows .mixedOrders=true):∀ (m:Nat) (oc:Option Code) (ks:List Kf) (f f':Cf P),runC P m0 n Ns m oc ks f=some f'→f.full→(∀ x∈f.cs,x∈f'.cs)∧f'.full ∧
  (f'.good→∀ {B0:Bd} {w0:World} {β:Env} {a:Act} {w:World},Sync P m0 n B0 w0 f β a w→∀ (Q:Exit→Act→World→Prop),(∀ β' a' w',(∀ k,k<B0.k→β' k=β k)→Sync P m0 n B0 w0 f' β' a' w'→Q .normal a' w'∧Q .ret a' w')→toShow P Q oc ks a w):=by
 intro m
 induction m with
 | zero=>intro oc ks f f' h; simp only [runC] at h; cases h
 | succ m ih =>
  intro oc ks f f' h hf
  simp only [runC] at h
  cases oc with
  | none =>
   dsimp only at h
   cases ks with
   | nil =>
    obtain rfl:=Option.some.inj h
    exact ⟨fun _ hx=>hx,hf,fun _ B0 w0 β a w s Q hQ=>(hQ β a w (fun _ _=>rfl) s).1⟩
   | cons x r =>
    cases x with
    | sq c=>obtain ⟨i1,i2,i3⟩:=ih _ _ _ _ h hf; exact ⟨i1,i2,fun hg B0 w0 β a w s Q hQ=>i3 hg s Q hQ⟩
    | bl j =>
     obtain ⟨i1,i2,i3⟩:=ih _ _ _ _ h hf
     exact ⟨i1,i2,fun hg B0 w0 β a w s Q hQ=>i3 hg s Q hQ⟩
    | lp c =>
     obtain ⟨i1,i2,i3⟩:=ih _ _ _ _ h hf
     exact ⟨i1,i2,fun hg B0 w0 β a w s Q hQ=>rounds_one (i3 hg s Q hQ)⟩
    | sc=>obtain ⟨i1,i2,i3⟩:=ih _ _ _ _ h hf; exact ⟨i1,i2,fun hg B0 w0 β a w s Q hQ=>i3 hg s Q hQ⟩
  | some c =>
   cases c with
   | skip=>obtain ⟨i1,i2,i3⟩:=ih _ _ _ _ h hf; exact ⟨i1,i2,fun hg B0 w0 β a w s Q hQ=>wp_skip (i3 hg s Q hQ)⟩
   | label l=>obtain ⟨i1,i2,i3⟩:=ih _ _ _ _ h hf; exact ⟨i1,i2,fun hg B0 w0 β a w s Q hQ=>wp_label (i3 hg s Q hQ)⟩
   | region rid ops d =>
    dsimp only at h
    split at h
    · rename_i f1 h1
      cases d with
      | true =>
       simp only [cond_true] at h1
       have hf1:=drawS1_full h1 hf
       obtain ⟨i1,i2,i3⟩:=ih _ _ _ _ h hf1
       obtain ⟨j1,j2⟩:=drawS1_ok hm h1 (fun k hk=>(hf.1 k).1 hk) hf.2
       refine ⟨fun x hx=>i1 x (j1 x hx),i2,fun hg B0 w0 β a w s Q hQ=>?_⟩
       have:=j2 (fun β x hx=>hg β x (i1 x hx)) s (post P Q ks) fun β' a' w' e s'=>i3 hg s' Q fun β2 a2 w2 e2 s2=>hQ β2 a2 w2 (fun k hk=>(e2 k hk).trans (e k hk)) s2
       unfold RegAny at this
       simp only [Array.toArray_toList] at this
       exact wp_region_any hm this
      | false =>
       simp only [cond_false] at h1
       have hf1:=seqS_full h1 hf
       obtain ⟨i1,i2,i3⟩:=ih _ _ _ _ h hf1
       obtain ⟨j1,j2⟩:=seqS_ok h1
       exact ⟨fun x hx=>i1 x (j1 x hx),i2,fun hg B0 w0 β a w s Q hQ=>wp_region_list (j2 (fun β x hx=>hg β x (i1 x hx)) s (post P Q ks) fun β' a' w' e s'=>i3 hg s' Q fun β2 a2 w2 e2 s2=>hQ β2 a2 w2 (fun k hk=>(e2 k hk).trans (e k hk)) s2)⟩
    · cases h
   | seq c d=>obtain ⟨i1,i2,i3⟩:=ih _ _ _ _ h hf; exact ⟨i1,i2,fun hg B0 w0 β a w s Q hQ=>wp_seq (i3 hg s Q hQ)⟩
   | cond x c d =>
    dsimp only at h
    split at h
    · obtain ⟨i1,i2,i3⟩:=ih _ _ _ _ h hf
      refine ⟨fun y hy=>i1 y (List.mem_cons_of_mem _ hy),i2,fun hg B0 w0 β a w s Q hQ=>?_⟩
      obtain ⟨e,_⟩:=Eqs.cons_ok (hg β _ (i1 _ (List.mem_cons_self ..)))
      injection e with e
      exact wp_cond_true (by rw [s.sl.eval]; exact e) (i3 hg (s.cs _) Q hQ)
    · obtain ⟨i1,i2,i3⟩:=ih _ _ _ _ h hf
      refine ⟨fun y hy=>i1 y (List.mem_cons_of_mem _ hy),i2,fun hg B0 w0 β a w s Q hQ=>?_⟩
      obtain ⟨e,_⟩:=Eqs.cons_ok (hg β _ (i1 _ (List.mem_cons_self ..)))
      injection e with e
      exact wp_cond_false (by rw [s.sl.eval]; exact e) (i3 hg (s.cs _) Q hQ)
    · cases h
   | block j c=>obtain ⟨i1,i2,i3⟩:=ih _ _ _ _ h hf; exact ⟨i1,i2,fun hg B0 w0 β a w s Q hQ=>wp_block (i3 hg s Q hQ)⟩
   | loop c=>obtain ⟨i1,i2,i3⟩:=ih _ _ _ _ h hf; exact ⟨i1,i2,fun hg B0 w0 β a w s Q hQ=>rounds_loop (rounds_one (i3 hg s Q hQ))⟩
   | rangeFunc _ _ _ _=>cases h
   | exit j =>
    dsimp only at h
    split at h
    · rename_i r hr
      obtain ⟨i1,i2,i3⟩:=ih _ _ _ _ h hf
      exact ⟨i1,i2,fun hg B0 w0 β a w s Q hQ=>wp_exit (post_exit hr (i3 hg s Q hQ))⟩
    · cases h
   | scope c=>obtain ⟨i1,i2,i3⟩:=ih _ _ _ _ h hf; exact ⟨i1,i2,fun hg B0 w0 β a w s Q hQ=>wp_scope_straight (i3 hg s Q hQ)⟩
   | goto _=>cases h
   | ret =>
    obtain rfl:=Option.some.inj h
    exact ⟨fun _ hx=>hx,hf,fun _ B0 w0 β a w s Q hQ=>wp_ret (post_ret (hQ β a w (fun _ _=>rfl) s).2 ks)⟩
   | refuse _=>cases h
theorem look_start:∀ (args:List SV) (k t:Nat),look (startS args k) t=if k≤t then (args[t-k]?).getD undefS else undefS
 | [],k,t=>by simp [startS,look]
 | x::r,k,t=>by
  simp only [startS,look,cond_eq_ite,Nat.beq_eq]
  rw [look_start r (k+1) t]
  by_cases e:k=t
  · subst e; simp
  · rw [if_neg e]
    by_cases h:k≤t
    · rw [if_pos h,if_pos (by omega),show t-k=(t-(k+1))+1 by omega,List.getElem?_cons_succ]
    · rw [if_neg h,if_neg (by omega)]
theorem tmps_eq {β:Env} {a:Act} {sl:List (Nat × SV)} {n:Nat} (h:SlOk β a sl n):a.tmps=tmpsS β sl n:=by
 refine Array.ext (by simp [tmpsS,h.1]) fun i h1 h2=>?_
 have:=h.2 i
 rw [Array.getD_eq_getD_getElem?,Array.getElem?_eq_getElem h1,Option.getD_some] at this
 rw [this]
 simp [tmpsS]
theorem eqsOf_ok {β:Env}:∀ {l:List (Env→Eqs)},Eqs.ok (eqsOf β l)→∀ f∈l,Eqs.ok (f β)
 | [],_,f,hf=>by cases hf
 | g::r,h,f,hf=>by
  simp only [eqsOf] at h
  rcases List.mem_cons.1 hf with rfl | hf
  · exact fun p hp=>h p (List.mem_append.2 (.inl hp))
  · exact eqsOf_ok (fun p hp=>h p (List.mem_append.2 (.inr hp))) f hf
theorem ok_of_maps:∀ {l:Eqs},l.map Prod.fst=l.map Prod.snd→Eqs.ok l
 | [],_=>fun p hp=>by cases hp
 | (a,b)::r,h=>by
  simp only [List.map_cons,List.cons.injEq] at h
  intro p hp
  rcases List.mem_cons.1 hp with rfl | hp
  · exact h.1
  · exact ok_of_maps h.2 p hp
theorem needs_q {q:Nat→Bool} {ob:List Ob}:∀ (l:List (Nat × Ob)),Eqs.ok (needEqs q ob l)→∀ p∈l,q p.1=true
 | [],_,p,hp=>by cases hp
 | (k,x)::r,h,p,hp=>by
  simp only [needEqs] at h
  split at h
  · rename_i h1 h2
    rcases List.mem_cons.1 hp with rfl | hp
    · exact h1
    · exact needs_q r (Eqs.cons_ok h).2 p hp
  · exact (Eqs.no_ok h).elim
theorem run1_still {α:Type} {P:Program} {m0:Nat}:∀ (s:Sem α) (q:Nat→Bool) (ob:List Ob) (tr0:List Tr) (r:R1 α),run1 P m0 false s q ob tr0=some r→(∀ k,q k=true→k<ob.length)→r.ob.length=ob.length→∃ tr,r.tr=tr.reverse++tr0∧∀ (β:Env) (w:World),trEnd β w tr=w:=by
 intro s
 have cons:∀ (x:Tr) (tr0:List Tr) (r:R1 α),(∀ (β:Env) (w:World) (tr:List Tr),trEnd β w (x::tr)=trEnd β w tr)→(∃ tr,r.tr=tr.reverse++(x::tr0)∧∀ (β:Env) (w:World),trEnd β w tr=w)→∃ tr,r.tr=tr.reverse++tr0∧∀ (β:Env) (w:World),trEnd β w tr=w:=by
  rintro x tr0 r hx ⟨tr,h1,h2⟩
  exact ⟨x::tr,by rw [h1]; simp,fun β w=>by rw [hx]; exact h2 β w⟩
 induction s with
 | pure a =>
  intro q ob tr0 r h _ _
  simp only [run1] at h
  obtain rfl:=Option.some.inj h
  exact ⟨[],by simp,fun _ _=>rfl⟩
 | load m a k ih =>
  intro q ob tr0 r h hq hl
  obtain ⟨b,o,sp⟩:=a
  cases sp with
  | some n=>simp only [run1] at h; cases h
  | none =>
   simp only [run1] at h
   split at h
   · split at h
     · rw [lit_eq] at h
       split at h
       · exact cons _ _ _ (fun _ _ _=>rfl) (ih _ _ _ _ _ h hq hl)
       · cases h
     · cases h
   · cases h
 | store m a v k ih =>
  intro q ob tr0 r h hq hl
  obtain ⟨b,o,sp⟩:=a
  cases sp with
  | some n=>simp only [run1] at h; cases h
  | none =>
   simp only [run1] at h
   split at h
   · split at h
     · rw [lit_eq] at h
       simp at h
     · cases h
   · cases h
 | new x k ih =>
  intro q ob tr0 r h hq hl
  cases x<;>simp only [run1] at h<;>first | (cases h; done) | skip
  rename_i cs t fr
  rw [cond_eq_ite] at h
  split at h
  · rw [lit_eq] at h
    have:=(run1_ok _ _ _ _ _ h (fun j hj=>by
     rw [List.length_append]; simp only [List.length_cons,List.length_nil]
     unfold addQ at hj
     rw [Bool.or_eq_true,Nat.beq_eq] at hj
     rcases hj with a | a
     · have:=hq j a; omega
     · omega)).1
    rw [List.length_append] at this
    simp only [List.length_cons,List.length_nil] at this
    omega
  · cases h
 | shape b k ih =>
  intro q ob tr0 r h hq hl
  simp only [run1] at h
  split at h
  · split at h
    · exact cons _ _ _ (fun _ _ _=>rfl) (ih _ _ _ _ _ h hq hl)
    · cases h
  · cases h
 | freeze a n k ih=>intro q ob tr0 r h _ _; simp only [run1] at h; cases h
 | frozen a k ih =>
  intro q ob tr0 r h hq hl
  obtain ⟨b,o,sp⟩:=a
  cases sp with
  | some n=>simp only [run1] at h; cases h
  | none =>
   simp only [run1] at h
   split at h
   · split at h
     · exact cons _ _ _ (fun _ _ _=>rfl) (ih _ _ _ _ _ h hq hl)
     · cases h
   · cases h
 | getObj r k ih=>intro q ob tr0 r h _ _; simp only [run1] at h; cases h
 | setObj r o k ih=>intro q ob tr0 r h _ _; simp only [run1] at h; cases h
 | choose c k ih=>intro q ob tr0 r h _ _; simp only [run1] at h; cases h
 | sys c k ih=>intro q ob tr0 r h _ _; simp only [run1] at h; cases h
 | program k ih =>
  intro q ob tr0 r h hq hl
  simp only [run1] at h
  exact cons _ _ _ (fun _ _ _=>rfl) (ih _ _ _ _ _ h hq hl)
 | mark m k ih =>
  intro q ob tr0 r h hq hl
  simp only [run1] at h
  exact cons _ _ _ (fun _ _ _=>rfl) (ih _ _ _ _ h hq hl)
 | halt x=>intro q ob tr0 r h _ _; simp only [run1] at h; cases h
structure Fin (w w':World):Prop where
 bel:Below w.heap.size w w'
theorem sx {P:Program} {f:FuncId} {fn:Func} (args:List SV) (obs:List Ob) (evs:List (Ev P)) (Ns:List (Nat × Nat)) (m:Nat) (res:SV) (outs:List (Nat × Ob)) (hf:P.funcs[f]?=some fn) (hm:P.follows .mixedOrders=true)
  (hok:∀ β,Eqs.ok (allS P fn args obs evs Ns m res outs β))
  (hargs:args.all (SV.of fun k=>Nat.blt k obs.length)=true) (hobs:obs.all (fun x=>x.of (fun k=>Nat.blt k obs.length)&&x.own)=true) (β:Env) (w:World) (hh:∀ (k:Nat) (o:Ob),obs[k]?=some o→o.holds β w (β k)) :
  Calls P f (args.map (SV.den β)).toArray w fun e w'=>∃ (β':Env) (q:Nat→Bool) (obj:Nat→Option Ob),(∀ k,k<obs.length→β' k=β k)∧e=.returned (res.den β')∧res.of q=true∧(∀ p∈outs,∀ c,(β' p.1).F c→w.heap.size≤c∨∃ i,i<obs.length∧(β i).F c)∧holdsAll β' w' outs∧Fin w w':=by
 have hnal:∀ (k r:Nat) (D:Thing),obs[k]?≠some (.al r D):=fun k r D ho=>by
  have:=List.all_eq_true.1 hobs _ (List.mem_of_getElem? ho)
  simp [Ob.own] at this
 have huq:UniqAl obs:=fun k j i D _ h1 _=>absurd h1 (hnal k i D)
 have hlt:∀ k,k<obs.length→∀ c,(β k).F c→c<w.heap.size:=fun k hk c hc=>by
  have h:=hh k _ (List.getElem?_eq_getElem hk)
  cases hx:obs[k] with
  | box cs t=>rw [hx] at h; rw [(h.1.1 c).1 hc]; exact heap_lt h.2
  | th D=>rw [hx] at h; exact D.st.lt _ _ h c hc
  | al r D=>rw [hx] at h; exact D.st.lt _ _ h c hc
  | pl n=>rw [hx] at h; rw [(h.1.1 c).1 hc]; exact h.2.lt
  | row cs t n sz=>rw [hx] at h; rw [(h.1.1 c).1 hc]; exact heap_lt h.2.choose_spec.1
  | ow D t=>rw [hx] at h; exact D.st.lt _ _ h.2 c hc
  | dead =>
   have:=List.all_eq_true.1 hobs _ (List.mem_of_getElem? (List.getElem?_eq_getElem hk))
   rw [hx] at this
   simp [Ob.own] at this
 cases hb:fn.body with
 | none=>have:=hok β; unfold allS at this; rw [hb] at this; exact (Eqs.no_ok this).elim
 | some c =>
  have h1:∀ β,Eqs.ok (match fullS P fn args obs evs Ns m c with | some f=>fin1 P fn obs.length (sizeS fn args) res outs f β | none=>Eqs.no):=fun β=>by
   have:=hok β
   unfold allS at this
   rw [hb] at this
   exact this
  cases hr:fullS P fn args obs evs Ns m c with
  | none=>have:=h1 β; rw [hr] at this; exact (Eqs.no_ok this).elim
  | some g =>
   have h2:∀ β,Eqs.ok (fin1 P fn obs.length (sizeS fn args) res outs g β):=fun β=>by have:=h1 β; rw [hr] at this; exact this
   unfold fullS at hr
   obtain ⟨_,r2,r3⟩:=runC_ok hm _ _ _ _ _ hr ⟨fun k=>by dsimp only; rw [Nat.blt_eq],huq⟩
   have fin:∃ r:R1 Value,run1 P obs.length false (results fn (tmpsS idE g.sl (sizeS fn args))) g.q g.ob []=some r∧res.of g.q=true∧r.ob.length=g.ob.length ∧
     ∀ β,Eqs.ok (chk P β (results fn (tmpsS β g.sl (sizeS fn args))) r.tr.reverse (fun u=>[(.v u,.v (res.den β))])++(needEqs g.q g.ob outs++eqsOf β g.cs)):=by
    cases hx:run1 P obs.length false (results fn (tmpsS idE g.sl (sizeS fn args))) g.q g.ob [] with
    | none=>have:=h2 β; unfold fin1 at this; rw [hx] at this; exact (Eqs.no_ok this).elim
    | some r =>
     obtain ⟨ra,rq,rob,rtr⟩:=r
     cases hc:(res.of g.q&&Nat.beq rob.length g.ob.length&&Nat.beq g.ev.length 0) with
     | false=>have:=h2 β; unfold fin1 at this; rw [hx] at this; dsimp only at this; rw [hc] at this; exact (Eqs.no_ok this).elim
     | true =>
      have h3:=hc
      simp only [Bool.and_eq_true,Nat.beq_eq] at hc
      refine ⟨_,rfl,hc.1.1,hc.1.2,fun β=>?_⟩
      have:=h2 β
      unfold fin1 at this
      rw [hx] at this
      dsimp only at this
      rw [h3] at this
      exact this
   obtain ⟨r,f1,f2,f3,f4⟩:=fin
   have hgood:g.good:=fun β x hx=>eqsOf_ok (fun p hp=>f4 β p (List.mem_append.2 (.inr (List.mem_append.2 (.inr hp))))) x hx
   refine calls_of_wp hf hb (r3 hgood (B0:=bd0 w.heap.size obs.length) (w0:=w) (β:=β) ⟨⟨Keep.refl _ _,Nat.le_refl _,fun k o hk ho=>⟨hh k o ho,(Bool.and_eq_true _ _▸List.all_eq_true.1 hobs o (List.mem_of_getElem? ho)).1⟩,fun k hk=>hlt k (by simpa [Nat.blt_eq] using hk),fun k j hk _ _ hm=>?_,fun k _ hk hm=>?_,fun k hk hm=>?_,fun i hi=>by rw [Nat.blt_eq]; exact hi,fun k r D _ ho=>?_,fun k r D _ ho=>absurd ho (hnal k r D),fun k i _ hi _ hm=>by rw [Nat.blt_eq] at hi; omega⟩,fun k=>by dsimp only; rw [Nat.blt_eq],⟨?_,fun t=>?_⟩,fun t=>?_,⟨Nat.le_refl _,Nat.le_refl _⟩,rfl,huq⟩ _ fun β' a' w' e s=>?_)
   · rw [Nat.blt_eq] at hk; omega
   · rw [Nat.blt_eq] at hk; omega
   · rw [Nat.blt_eq] at hk; omega
   · exact absurd ho (hnal k r D)
   · simp [sizeS]
   · rw [look_start,if_pos (Nat.zero_le _),Nat.sub_zero]
     simp only [Array.getD_eq_getD_getElem?,Array.getElem?_append,List.size_toArray,List.length_map,List.getElem?_toArray,List.getElem?_map]
     split
     · rename_i hlt2
       rw [List.getElem?_eq_getElem hlt2]
       rfl
     · rename_i hge
       rw [List.getElem?_eq_none (by omega)]
       simp [Array.getElem?_replicate]
       split<;>rfl
   · dsimp only
     rw [look_start,if_pos (Nat.zero_le _),Nat.sub_zero]
     cases hx:args[t]? with
     | none=>rfl
     | some x=>exact List.all_eq_true.1 hargs x (List.mem_of_getElem? hx)
   · obtain ⟨h5,_,_,tr,h8,h9⟩:=run1_ok _ _ _ _ _ f1 (fun k hk=>(s.q k).1 hk)
     obtain ⟨k1,obj',k2,k3,k4⟩:=h9 _ _ _ _ _ _ s.good (fun k hk=>⟨hk,rfl⟩) (fun k a b=>by omega) s.m0.1
     have h6:=f4 β'
     rw [h8,List.append_nil,List.reverse_reverse] at h6
     have h7:Eqs.ok (chk P β' (results fn (tmpsS β' g.sl (sizeS fn args))) tr (fun u=>[(.v u,.v (res.den β'))])):=fun p hp=>h6 p (List.mem_append.2 (.inl hp))
     obtain ⟨v,hv,hv2⟩:=chk_run _ _ _ h7 k1
     obtain ⟨e1,_⟩:=Eqs.cons_ok hv2
     injection e1 with e1
     subst e1
     rw [f3,rangeQ_self] at k4
     have hend:trEnd β' w' tr=w':=by
      obtain ⟨tr2,x1,x2⟩:=run1_still _ _ _ _ _ f1 (fun k hk=>(s.q k).1 hk) f3
      rw [h8,List.append_nil,List.append_nil] at x1
      rw [List.reverse_inj.1 x1]
      exact x2 β' w'
     rw [hend] at hv k4
     rw [← tmps_eq s.sl] at hv
     have e:∀ k,k<obs.length→β' k=β k:=e
     have hout:∀ p:Nat × Ob,g.q p.1=true→∀ c,(β' p.1).F c→w.heap.size≤c∨∃ i,i<obs.length∧(β i).F c:=fun p hp c hc=>by
      by_cases h0:obs.length≤p.1
      · exact (s.good.fr p.1 hp h0 c hc).imp (fun a=>a.elim (fun a=>a.elim id False.elim) False.elim) fun ⟨i,i1,i2⟩=>⟨i,i1,by rw [← e i i1]; exact i2⟩
      · exact .inr ⟨p.1,by omega,by rw [← e p.1 (by omega)]; exact hc⟩
     have hneed:Eqs.ok (needEqs g.q g.ob outs):=fun p hp=>f4 β' p (List.mem_append.2 (.inr (List.mem_append.2 (.inl hp))))
     have hres:bodyPost P fn (fun e w'=>∃ (β':Env) (q:Nat→Bool) (obj:Nat→Option Ob),(∀ k,k<obs.length→β' k=β k)∧e=.returned (res.den β')∧res.of q=true∧(∀ p∈outs,∀ c,(β' p.1).F c→w.heap.size≤c∨∃ i,i<obs.length∧(β i).F c)∧holdsAll β' w' outs∧Fin w w') .normal a' w':=⟨s.defers,_,hv,β',g.q,obj',e,rfl,f2,fun p hp c hc=>hout p (needs_q _ hneed p hp) c hc,needs_hold s.good (fun k hk=>⟨hk,rfl⟩) _ hneed,⟨k4.bel.below⟩⟩
     exact ⟨hres,hres⟩
end
section
open Go Go.RowKit
theorem of_pure0 {P:Program} {f:FuncId} {args:Array Value} {w:World} {v:Value} {β:Env} {n:Nat} {l:List (Nat × Ob)} (h:Calls P f args w fun e w'=>e=.returned v∧Below w.heap.size w w') (hv:∀ β,(tag v).den β=v) :
  Calls P f args w fun e w'=>∃ xs:List Pl,fresh β w l xs∧e=.returned ((tag v).den (extE β n xs))∧newHold w' [] xs∧Below w.heap.size w w' :=
 h.mono fun e w' ⟨he,hb⟩=>⟨[],(fun _ h=>by cases h),by rw [he,hv],trivial,hb⟩
theorem hmA:Tryz.prog.follows .mixedOrders=true:=by kernel_rfl
end
end Go.Proofs.YthkpghhoffihmaaGreatDoor.Y
end
