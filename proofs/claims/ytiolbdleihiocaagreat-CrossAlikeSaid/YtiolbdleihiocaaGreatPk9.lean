/- SxA. -/
import Derived.Orders
import Derived.LoopN
import Derived.Scope
import Derived.StillTail
import Derived.WalkKit
import Derived.Test.YtiolbdleihiocaaGreatPk8
set_option linter.unnecessarySimpa false
set_option linter.unusedVariables false
set_option linter.unusedSimpArgs false
section
namespace Go.Proofs.YtiolbdleihiocaaGreat
section
open Go Go.RowKit
abbrev Env := Nat → Nat
inductive Lf0 where
  | v (x : Value)
  | p (k o : Nat)
  | s (k o n c : Nat)
inductive Lf where
  | b (l : Lf0)
  | f (fn : Fn) (first cap : List Lf0)
inductive SC where
  | c (l : Lf)
  | a (ls : List Lf)
inductive SV where
  | one (x : SC)
  | tup (xs : List SC)
def Lf0.den (β : Env) : Lf0 → Value
  | .v x => x
  | .p k o => .pointer (some ⟨β k, o, none⟩)
  | .s k o n c => .slice (some ⟨β k, o, none⟩) n c
def Lf.den (β : Env) : Lf → Value
  | .b l => l.den β
  | .f fn x y => .func fn (x.map (Lf0.den β)).toArray (y.map (Lf0.den β)).toArray
def SC.den (β : Env) : SC → Value
  | .c l => l.den β
  | .a ls => .agg (ls.map (Lf.den β)).toArray
def SV.den (β : Env) : SV → Value
  | .one x => x.den β
  | .tup xs => .tuple (xs.map (SC.den β)).toArray
def tblN : List Nat := [0, 1, 2, 3, 4, 5, 6, 7, 8, 9, 10, 11, 12, 13, 14, 15, 16, 17, 18, 19, 20, 21, 22, 23, 24, 25, 26, 27, 28, 29, 30, 31, 32, 33, 34, 35, 36, 37, 38, 39, 40, 41, 42, 43, 44, 45, 46, 47, 48, 49, 50, 51, 52, 53, 54, 55, 56, 57, 58, 59, 60, 61, 62, 63, 64, 65, 66, 67, 68, 69, 70, 71, 72, 73, 74, 75, 76, 77, 78, 79, 80, 81, 82, 83, 84, 85, 86, 87, 88, 89, 90, 91, 92, 93, 94, 95, 96, 97, 98, 99, 100, 101, 102, 103, 104, 105, 106, 107, 108, 109, 110, 111, 112, 113, 114, 115, 116, 117, 118, 119, 120, 121, 122, 123, 124, 125, 126, 127, 128, 129, 130, 131, 132, 133, 134, 135, 136, 137, 138, 139, 140, 141, 142, 143, 144, 145, 146, 147, 148, 149, 150, 151, 152, 153, 154, 155, 156, 157, 158, 159, 160, 161, 162, 163, 164, 165, 166, 167, 168, 169, 170, 171, 172, 173, 174, 175, 176, 177, 178, 179, 180, 181, 182, 183, 184, 185, 186, 187, 188, 189, 190, 191, 192, 193, 194, 195, 196, 197, 198, 199, 200, 201, 202, 203, 204, 205, 206, 207, 208, 209, 210, 211, 212, 213, 214, 215, 216, 217, 218, 219, 220, 221, 222, 223, 224, 225, 226, 227, 228, 229, 230, 231, 232, 233, 234, 235, 236, 237, 238, 239, 240, 241, 242, 243, 244, 245, 246, 247, 248, 249, 250, 251, 252, 253, 254, 255]
def lit {α : Type} (n : Nat) (k : Nat → α) : α := match tblN[n]? with
  | some m => k m
  | none => k n
theorem tblN_eq : tblN = List.range 256 := by kernel_rfl
theorem lit_eq {α : Type} (n : Nat) (k : Nat → α) : lit n k = k n := by
  unfold lit
  rw [tblN_eq]
  by_cases h : n < 256
  · rw [List.getElem?_range h]
  · rw [List.getElem?_eq_none (by rw [List.length_range]; omega)]
def idE : Env := fun k => k
def tag0 : Value → Lf0
  | .pointer (some ⟨b, o, none⟩) => lit b fun b => lit o fun o => .p b o
  | .slice (some ⟨b, o, none⟩) n c => lit b fun b => lit o fun o => .s b o n c
  | x => .v x
def tag1 : Value → Lf
  | .func fn x y => .f fn (x.toList.map tag0) (y.toList.map tag0)
  | x => .b (tag0 x)
def tagC : Value → SC
  | .agg cs => .a (cs.toList.map tag1)
  | x => .c (tag1 x)
def tag : Value → SV
  | .tuple xs => .tup (xs.toList.map tagC)
  | x => .one (tagC x)
def Lf0.of (q : Nat → Bool) : Lf0 → Bool
  | .v _ => true
  | .p k _ => q k
  | .s k _ _ _ => q k
def Lf.of (q : Nat → Bool) : Lf → Bool
  | .b l => l.of q
  | .f _ x y => x.all (Lf0.of q) && y.all (Lf0.of q)
def SC.of (q : Nat → Bool) : SC → Bool
  | .c l => l.of q
  | .a ls => ls.all (Lf.of q)
def SV.of (q : Nat → Bool) : SV → Bool
  | .one x => x.of q
  | .tup xs => xs.all (SC.of q)
def isScalar : Value → Bool
  | .agg _ => false
  | .tuple _ => false
  | _ => true
def Lf.scalar : Lf → Bool
  | .b (.v x) => isScalar x
  | _ => true
structure Stable (D : World → Nat → Prop) : Prop where
  lt : ∀ w g, D w g → g < w.heap.size
  below : ∀ w w' g, D w g → Below w.heap.size w w' → D w' g
  touch : ∀ w w' g b o n m, D w g → Slot w b o m → Touch w w' b o n → g ≠ b → D w' g
inductive Ob where
  | box (cs : List Lf) (t : TypeId)
  | th (D : World → Nat → Prop) (h : Stable D)
  | al (r : Nat) (D : World → Nat → Prop) (h : Stable D)
  | pl (n : Nat)
def Ob.holds (β : Env) (w : World) (g : Nat) : Ob → Prop
  | .box cs t => w.heap[g]? = some (.cells (cs.map (Lf.den β)).toArray t (0, 0))
  | .th D _ => D w g
  | .al _ D _ => D w g
  | .pl n => Slot w g 0 n
def Ob.of (q : Nat → Bool) : Ob → Bool
  | .box cs _ => cs.all (Lf.of q)
  | .th _ _ => true
  | .al _ _ _ => true
  | .pl _ => true
inductive Tm where
  | v (x : Value)
  | n (x : Nat)
  | o (x : Obj)
  | ob (x : Ob)
  | p (x : Op)
abbrev Eqs := List (Tm × Tm)
def Eqs.ok (l : Eqs) : Prop := ∀ p ∈ l, p.1 = p.2
def Eqs.no : Eqs := [(.n 0, .n 1)]
inductive Tr where
  | ld (i o : Nat) (l : Lf)
  | st (i o : Nat) (l : Lf)
  | nw (n : Nat) (cs : List Lf) (t : TypeId)
  | sh (i : Nat) (t : TypeId) (m : Nat)
  | fz (i o : Nat)
  | go
structure R1 (α : Type) where
  a : α
  q : Nat → Bool
  ob : List Ob
  tr : List Tr
def ownQ (q : Nat → Bool) (b : Nat) : Option Nat := lit b fun b => bif q b then some b else none
def addQ (q : Nat → Bool) (n : Nat) : Nat → Bool := fun k => q k || Nat.beq k n
def run1 {α : Type} (P : Program) (m0 : Nat) (st : Bool) : Sem α → (Nat → Bool) → List Ob → List Tr → Option (R1 α)
  | .pure a, q, ob, tr => some ⟨a, q, ob, tr⟩
  | .load _ ⟨b, o, none⟩ k, q, ob, tr =>
    match ownQ q b with
    | some i => match ob[i]? with
      | some (.box cs _) => lit o fun o => match cs[o]? with
        | some l => run1 P m0 st (k (l.den idE)) q ob (.ld i o l :: tr)
        | none => none
      | _ => none
    | none => none
  | .store _ ⟨b, o, none⟩ v k, q, ob, tr =>
    match ownQ q b with
    | some i => match ob[i]? with
      | some (.box cs t) => lit o fun o =>
        bif st && Nat.ble m0 i && (tag1 v).of q && (tag1 v).scalar && Nat.blt o cs.length && !Nat.beq t 271
        then run1 P m0 st k q (ob.set i (.box (cs.set o (tag1 v)) t)) (.st i o (tag1 v) :: tr) else none
      | _ => none
    | none => none
  | .new (.cells cs t _) k, q, ob, tr =>
    bif (cs.toList.map tag1).all (Lf.of q)
    then lit ob.length fun n => run1 P m0 st (k n) (addQ q n) (ob ++ [.box (cs.toList.map tag1) t]) (.nw n (cs.toList.map tag1) t :: tr) else none
  | .shape b k, q, ob, tr =>
    match ownQ q b with
    | some i => match ob[i]? with
      | some (.box cs t) => run1 P m0 st (k (some (t, cs.length))) q ob (.sh i t cs.length :: tr)
      | _ => none
    | none => none
  | .frozen ⟨b, o, none⟩ k, q, ob, tr =>
    match ownQ q b with
    | some i => match ob[i]? with
      | some (.box _ _) => run1 P m0 st (k false) q ob (.fz i o :: tr)
      | _ => none
    | none => none
  | .program k, q, ob, tr => run1 P m0 st (k P) q ob (.go :: tr)
  | .mark _ k, q, ob, tr => run1 P m0 st k q ob (.go :: tr)
  | _, _, _, _ => none
def chk {α : Type} (P : Program) (β : Env) : Sem α → List Tr → (α → Eqs) → Eqs
  | .pure a, [], f => f a
  | .load _ a k, .ld i o l :: tr, f => (.v (.pointer (some a)), .v (.pointer (some ⟨β i, o, none⟩))) :: chk P β (k (l.den β)) tr f
  | .store _ a v k, .st i o l :: tr, f => (.v (.pointer (some a)), .v (.pointer (some ⟨β i, o, none⟩))) :: (.v v, .v (l.den β)) :: chk P β k tr f
  | .new x k, .nw n cs t :: tr, f => (.o x, .o (.cells (cs.map (Lf.den β)).toArray t (0, 0))) :: chk P β (k (β n)) tr f
  | .shape b k, .sh i t m :: tr, f => (.n b, .n (β i)) :: chk P β (k (some (t, m))) tr f
  | .frozen a k, .fz i o :: tr, f => (.v (.pointer (some a)), .v (.pointer (some ⟨β i, o, none⟩))) :: chk P β (k false) tr f
  | .program k, .go :: tr, f => chk P β (k P) tr f
  | .mark _ k, .go :: tr, f => chk P β k tr f
  | _, _, _ => Eqs.no
def Enters (P : Program) (f : FuncId) : Prop := ∀ args w, (callFunc f args).run P w = .ok (.enter f args) w
def extE (β : Env) (n : Nat) (xs : List Nat) : Env := fun k => bif Nat.ble n k then (match xs[k - n]? with | some x => x | none => β k) else β k
def holdsAll (β : Env) (w : World) (l : List (Nat × Ob)) : Prop := ∀ p ∈ l, p.2.holds β w (β p.1)
structure Thing where
  D : World → Nat → Prop
  st : Stable D
def Thing.ob (x : Thing) : Ob := .th x.D x.st
def newHold (w : World) : List Thing → List Nat → Prop
  | [], [] => True
  | t :: ts, x :: xs => t.D w x ∧ newHold w ts xs
  | _, _ => False
inductive Ev (P : Program) where
  | call (f : FuncId) (en : Enters P f) (args : Env → Array Value) (needs : List (Nat × Ob)) (n : Nat) (res : SV) (news : List Thing)
      (ok : ∀ β w, holdsAll β w needs → Calls P f (args β) w fun e w' => ∃ xs : List Nat, (∀ x ∈ xs, w.heap.size ≤ x) ∧ xs.Nodup ∧ e = .returned (res.den (extE β n xs)) ∧ newHold w' news xs ∧ Below w.heap.size w w')
  | ret (f : FuncId) (en : Enters P f) (args : Array Value) (r : Value) (ok : ∀ w, Calls P f args w fun e w' => e = .returned r ∧ Below w.heap.size w w')
  | eqv (d : Nat) (x r : Value) (h : x = r)
  | mk (d N : Nat)
  | fill (f : FuncId) (en : Enters P f) (args : Env → Array Value) (needs : List (Nat × Ob)) (i N n : Nat) (D : World → Nat → Prop) (st : Stable D)
      (ok : ∀ β w, holdsAll β w needs → Slot w (β i) 0 N → Calls P f (args β) w fun e w' => e = .returned (.pointer (some ⟨β i, 0, none⟩)) ∧ D w' (β i) ∧ Touch w w' (β i) 0 N)
  | gen (d : Nat) (op : Op) (xs : List Value) (r : Value) (ok : ∀ (ρ : Operand → Value) (o : Oper) w, o.op = op → op.operands.toList.map ρ = xs → (execOp ρ o).run P w = .ok (.value r) w)
  | rd (d : Nat) (op : Op) (xs : Env → List Value) (needs : List (Nat × Ob)) (r : Value) (ok : ∀ β w, holdsAll β w needs → ∀ (ρ : Operand → Value) (o : Oper), o.op = op → op.operands.toList.map ρ = xs β → (execOp ρ o).run P w = .ok (.value r) w)
  | dyn (c : Oper → List SV → List Ob → Bool) (k : Oper → List SV → List Ob → Ev P)
def noSelectB : Op → Bool
  | .select _ _ => false
  | _ => true
def undefS : SV := .one (.c (.b (.v undef)))
def look : List (Nat × SV) → Nat → SV
  | [], _ => undefS
  | (k, x) :: r, t => bif Nat.beq k t then x else look r t
def evS (β : Env) (sl : List (Nat × SV)) : Operand → Value
  | .tmp t => (look sl t).den β
  | .const v => v
  | .global g => .pointer (some ⟨g, 0, none⟩)
  | .func f => .func (.func f) #[] #[]
inductive OR (P : Program) where
  | ok (x : SV) (q : Nat → Bool) (ob : List Ob) (ev : List (Ev P)) (c : Env → Eqs)
  | bad
def rangeQ (q : Nat → Bool) (n m : Nat) : Nat → Bool := fun k => q k || (Nat.ble n k && Nat.blt k m)
def Ob.plain : Ob → Ob
  | .al _ D st => .th D st
  | x => x
def needEqs (q : Nat → Bool) (ob : List Ob) : List (Nat × Ob) → Eqs
  | [] => []
  | (k, x) :: r => match q k, ob[k]? with
    | true, some y => (.ob y.plain, .ob x) :: needEqs q ob r
    | _, _ => Eqs.no
def genOp (P : Program) (m0 : Nat) (st : Bool) (q : Nat → Bool) (sl : List (Nat × SV)) (o : Oper) (ob : List Ob) (ev : List (Ev P)) : OR P :=
  match run1 P m0 st (execOp (evS idE sl) o) q ob [] with
  | some ⟨.value v, q', ob', tr⟩ => bif (tag v).of q' then .ok (tag v) q' ob' ev (fun β => chk P β (execOp (evS β sl) o) tr.reverse fun | .value u => [(.v u, .v ((tag v).den β))] | _ => Eqs.no) else .bad
  | some ⟨.skip, q', ob', tr⟩ => .ok undefS q' ob' ev (fun β => chk P β (execOp (evS β sl) o) tr.reverse fun | .skip => [] | _ => Eqs.no)
  | _ => .bad
def aloneB (i : Nat) : List Ob → Nat → Bool
  | [], _ => true
  | .al r _ _ :: l, k => !Nat.beq r i && aloneB i l (k + 1)
  | _ :: l, k => aloneB i l (k + 1)
def opS0 (P : Program) (m0 : Nat) (st : Bool) (q : Nat → Bool) (sl : List (Nat × SV)) (o : Oper) (ob : List Ob) (ev : List (Ev P)) : OR P :=
  match o.op with
  | .call ⟨.value fo, xs, _⟩ =>
    match ev with
    | .call f _ args needs n res news _ :: ev' =>
      bif (Nat.beq news.length 0 || Nat.beq n ob.length) && res.of (rangeQ q ob.length (ob.length + news.length)) then
        .ok res (rangeQ q ob.length (ob.length + news.length)) (ob ++ news.map Thing.ob) ev' fun β =>
          match evS β sl fo with
          | .func (.func g) x y => (.n g, .n f) :: (.v (.agg (x ++ xs.map (evS β sl) ++ y)), .v (.agg (args β))) :: needEqs q ob needs
          | _ => Eqs.no
      else .bad
    | .ret f _ args r _ :: ev' =>
      bif (tag r).of (fun _ => false) then
        .ok (tag r) q ob ev' fun β =>
          match evS β sl fo with
          | .func (.func g) x y => (.n g, .n f) :: (.v (.agg (x ++ xs.map (evS β sl) ++ y)), .v (.agg args)) :: (.v ((tag r).den β), .v r) :: []
          | _ => Eqs.no
      else .bad
    | .fill f _ args needs i N n D st _ :: ev' =>
      match ob[i]? with
      | some (.pl N') =>
        bif Nat.beq N' N && Nat.beq n ob.length && q i && Nat.ble m0 i && aloneB i ob 0 then
          .ok (.one (.c (.b (.p n 0)))) (addQ q n) (ob ++ [.al i D st]) ev' fun β =>
            match evS β sl fo with
            | .func (.func g) x y => (.n g, .n f) :: (.v (.agg (x ++ xs.map (evS β sl) ++ y)), .v (.agg (args β))) :: needEqs q ob needs
            | _ => Eqs.no
        else .bad
      | _ => .bad
    | _ => .bad
  | op => match ev with
    | .gen d op' xs r _ :: ev' => match o.dst with
      | some t => bif Nat.beq t d then
          bif (tag r).of (fun _ => false) then .ok (tag r) q ob ev' fun β => (.p op, .p op') :: (.v (.agg (op.operands.map (evS β sl))), .v (.agg xs.toArray)) :: [(.v r, .v ((tag r).den β))] else .bad
        else genOp P m0 st q sl o ob ev
      | none => genOp P m0 st q sl o ob ev
    | .rd d op' xs needs r _ :: ev' => match o.dst with
      | some t => bif Nat.beq t d then
          bif (tag r).of (fun _ => false) then .ok (tag r) q ob ev' fun β => (.p op, .p op') :: (.v (.agg (op.operands.map (evS β sl))), .v (.agg (xs β).toArray)) :: (.v r, .v ((tag r).den β)) :: needEqs q ob needs else .bad
        else genOp P m0 st q sl o ob ev
      | none => genOp P m0 st q sl o ob ev
    | .eqv d x r _ :: ev' => match o.dst with
      | some t => bif Nat.beq t d then
          match genOp P m0 st q sl o ob [] with
          | .ok v q' ob' _ c => bif (tag r).of (fun _ => false) then .ok (tag r) q' ob' ev' fun β => (.v (v.den β), .v x) :: (.v ((tag r).den β), .v r) :: c β else .bad
          | .bad => .bad
        else genOp P m0 st q sl o ob ev
      | none => genOp P m0 st q sl o ob ev
    | .mk d N :: ev' => match o.dst with
      | some t => bif Nat.beq t d then
          match genOp P m0 false q sl o ob [] with
          | .ok v q' ob' _ c => match ob'[ob.length]? with
            | some (.box cs tt) => bif Nat.beq ob'.length (ob.length + 1) && Nat.ble N cs.length && !Nat.beq tt 271 then .ok v q' (ob ++ [.pl N]) ev' c else .bad
            | _ => .bad
          | .bad => .bad
        else genOp P m0 st q sl o ob ev
      | none => genOp P m0 st q sl o ob ev
    | _ => genOp P m0 st q sl o ob ev
def opSV (sl : List (Nat × SV)) : Operand → SV
  | .tmp t => look sl t
  | .const v => tag v
  | _ => undefS
def dynR {P : Program} (sl : List (Nat × SV)) (o : Oper) (ob : List Ob) (ev : List (Ev P)) : List (Ev P) :=
  match ev with
  | .dyn c k :: r =>
    let xs := match o.op with
      | .call ⟨_, xs, _⟩ => xs.toList.map (opSV sl)
      | _ => []
    bif c o xs ob then k o xs ob :: r else ev
  | _ => ev
def opS (P : Program) (m0 : Nat) (st : Bool) (q : Nat → Bool) (sl : List (Nat × SV)) (o : Oper) (ob : List Ob) (ev : List (Ev P)) : OR P := opS0 P m0 st q sl o ob (dynR sl o ob ev)
theorem extE_nil (β : Env) (n : Nat) : extE β n [] = β := by
  funext k
  simp [extE]
end
section
open Go Go.RowKit
theorem all_congr {α β : Type} {f g : α → β} {p : α → Bool} : ∀ {l : List α}, l.all p = true → (∀ x, p x = true → f x = g x) → l.map f = l.map g
  | [], _, _ => rfl
  | x :: r, h, k => by
    simp only [List.all_cons, Bool.and_eq_true] at h
    simp only [List.map_cons, k x h.1, all_congr h.2 k]
theorem all_mono {α : Type} {p q : α → Bool} {l : List α} (h : l.all p = true) (k : ∀ x, p x = true → q x = true) : l.all q = true :=
  List.all_eq_true.2 fun x hx => k x (List.all_eq_true.1 h x hx)
theorem Lf0.den_congr {q : Nat → Bool} {β β' : Env} (hq : ∀ k, q k = true → β k = β' k) : ∀ x : Lf0, x.of q = true → x.den β = x.den β'
  | .v _, _ => rfl
  | .p k o, h => by simp only [Lf0.den, hq k h]
  | .s k o n c, h => by simp only [Lf0.den, hq k h]
theorem Lf.den_congr {q : Nat → Bool} {β β' : Env} (hq : ∀ k, q k = true → β k = β' k) : ∀ x : Lf, x.of q = true → x.den β = x.den β'
  | .b l, h => Lf0.den_congr hq l h
  | .f fn x y, h => by
    simp only [Lf.of, Bool.and_eq_true] at h
    simp only [Lf.den, all_congr h.1 (Lf0.den_congr hq), all_congr h.2 (Lf0.den_congr hq)]
theorem SC.den_congr {q : Nat → Bool} {β β' : Env} (hq : ∀ k, q k = true → β k = β' k) : ∀ x : SC, x.of q = true → x.den β = x.den β'
  | .c l, h => Lf.den_congr hq l h
  | .a ls, h => by simp only [SC.den, all_congr h (Lf.den_congr hq)]
theorem SV.den_congr {q : Nat → Bool} {β β' : Env} (hq : ∀ k, q k = true → β k = β' k) : ∀ x : SV, x.of q = true → x.den β = x.den β'
  | .one x, h => SC.den_congr hq x h
  | .tup xs, h => by simp only [SV.den, all_congr h (SC.den_congr hq)]
theorem Lf0.of_mono {q q' : Nat → Bool} (hq : ∀ k, q k = true → q' k = true) : ∀ x : Lf0, x.of q = true → x.of q' = true
  | .v _, _ => rfl
  | .p k o, h => hq k h
  | .s k o n c, h => hq k h
theorem Lf.of_mono {q q' : Nat → Bool} (hq : ∀ k, q k = true → q' k = true) : ∀ x : Lf, x.of q = true → x.of q' = true
  | .b l, h => Lf0.of_mono hq l h
  | .f fn x y, h => by
    simp only [Lf.of, Bool.and_eq_true] at h ⊢
    exact ⟨all_mono h.1 (Lf0.of_mono hq), all_mono h.2 (Lf0.of_mono hq)⟩
theorem SC.of_mono {q q' : Nat → Bool} (hq : ∀ k, q k = true → q' k = true) : ∀ x : SC, x.of q = true → x.of q' = true
  | .c l, h => Lf.of_mono hq l h
  | .a ls, h => all_mono h (Lf.of_mono hq)
theorem SV.of_mono {q q' : Nat → Bool} (hq : ∀ k, q k = true → q' k = true) : ∀ x : SV, x.of q = true → x.of q' = true
  | .one x, h => SC.of_mono hq x h
  | .tup xs, h => all_mono h (SC.of_mono hq)
theorem Ob.of_mono {q q' : Nat → Bool} (hq : ∀ k, q k = true → q' k = true) : ∀ x : Ob, x.of q = true → x.of q' = true
  | .box _ _, h => all_mono h (Lf.of_mono hq)
  | .th _ _, _ => rfl
  | .al _ _ _, _ => rfl
  | .pl _, _ => rfl
theorem Ob.holds_congr {q : Nat → Bool} {β β' : Env} {w : World} {g : Nat} (hq : ∀ k, q k = true → β k = β' k) : ∀ x : Ob, x.of q = true → x.holds β w g → x.holds β' w g
  | .box cs t, h, k => by
    simp only [Ob.holds] at k ⊢
    rw [← all_congr h (Lf.den_congr hq)]
    exact k
  | .th _ _, _, k => k
  | .al _ _ _, _, k => k
  | .pl _, _, k => k
def rtO (obj : Nat → Option Ob) (k : Nat) : Nat := match obj k with
  | some (.al r _ _) => r
  | _ => k
structure Good (B0 m0 : Nat) (w0 : World) (ex : Nat → Bool) (obj : Nat → Option Ob) (β : Env) (w : World) : Prop where
  bel : Below B0 w0 w
  le : B0 ≤ w.heap.size
  hold : ∀ k o, ex k = true → obj k = some o → o.holds β w (β k) ∧ o.of ex = true
  lt : ∀ k, ex k = true → β k < w.heap.size
  ne : ∀ k j, ex k = true → ex j = true → rtO obj k ≠ rtO obj j → m0 ≤ k → β k ≠ β j
  low : ∀ k, ex k = true → m0 ≤ k → B0 ≤ β k
  al : ∀ k r D st, ex k = true → obj k = some (.al r D st) → ex r = true ∧ ∃ n, obj r = some (.pl n)
theorem heap_lt {w : World} {b : Nat} {o : Obj} (h : w.heap[b]? = some o) : b < w.heap.size := by
  rcases Nat.lt_or_ge b w.heap.size with hlt | hge
  · exact hlt
  · rw [Array.getElem?_eq_none hge] at h; cases h
theorem Ob.holds_on {β : Env} {w w' : World} {g : Nat} (k : Below w.heap.size w w') : ∀ x : Ob, x.holds β w g → x.holds β w' g
  | .box cs t, h => by
    simp only [Ob.holds] at h ⊢
    rw [k.block g (heap_lt h)]
    exact h
  | .th D st, h => st.below w w' g h k
  | .al _ D st, h => st.below w w' g h k
  | .pl n, h => h.on k
theorem Good.on {B0 m0 : Nat} {w0 : World} {ex : Nat → Bool} {obj : Nat → Option Ob} {β : Env} {w w' : World} (h : Good B0 m0 w0 ex obj β w) (k : Below w.heap.size w w') : Good B0 m0 w0 ex obj β w' :=
  ⟨h.bel.trans (k.mono h.le), Nat.le_trans h.le k.size, fun i o hi ho => ⟨Ob.holds_on k o (h.hold i o hi ho).1, (h.hold i o hi ho).2⟩, fun i hi => Nat.lt_of_lt_of_le (h.lt i hi) k.size, h.ne, h.low, h.al⟩
theorem Good.congr {B0 m0 : Nat} {w0 : World} {ex : Nat → Bool} {obj : Nat → Option Ob} {β β' : Env} {w : World} (h : Good B0 m0 w0 ex obj β w) (k : ∀ i, ex i = true → β i = β' i) : Good B0 m0 w0 ex obj β' w :=
  ⟨h.bel, h.le, fun i o hi ho => ⟨by rw [← k i hi]; exact Ob.holds_congr k o (h.hold i o hi ho).2 (h.hold i o hi ho).1, (h.hold i o hi ho).2⟩, fun i hi => by rw [← k i hi]; exact h.lt i hi,
    fun i j hi hj hne hm => by rw [← k i hi, ← k j hj]; exact h.ne i j hi hj hne hm, fun i hi hm => by rw [← k i hi]; exact h.low i hi hm, h.al⟩
theorem Good.view {B0 m0 : Nat} {w0 : World} {ex ex' : Nat → Bool} {obj obj' : Nat → Option Ob} {β : Env} {w : World} (h : Good B0 m0 w0 ex obj β w) (he : ∀ k, ex' k = ex k) (ho : ∀ k, ex k = true → obj' k = obj k) : Good B0 m0 w0 ex' obj' β w := by
  obtain rfl : ex' = ex := funext he
  have hr : ∀ k, ex' k = true → rtO obj' k = rtO obj k := fun k hk => by unfold rtO; rw [ho k hk]
  exact ⟨h.bel, h.le, fun i o hi hx => h.hold i o hi (by rw [← ho i hi]; exact hx), h.lt, fun k j hk hj hne => h.ne k j hk hj (by rw [← hr k hk, ← hr j hj]; exact hne), h.low, fun k r D st hk hx => by
    obtain ⟨h1, n, h2⟩ := h.al k r D st hk (by rw [← ho k hk]; exact hx)
    exact ⟨h1, n, by rw [ho r h1]; exact h2⟩⟩
def updO (obj : Nat → Option Ob) (n : Nat) (x : Ob) : Nat → Option Ob := fun k => if k = n then some x else obj k
theorem updO_ne {obj : Nat → Option Ob} {n k : Nat} {x : Ob} (h : k ≠ n) : updO obj n x k = obj k := if_neg h
theorem updO_eq (obj : Nat → Option Ob) (n : Nat) (x : Ob) : updO obj n x n = some x := if_pos rfl
theorem rtO_ne {obj : Nat → Option Ob} {n k : Nat} {x : Ob} (h : k ≠ n) : rtO (updO obj n x) k = rtO obj k := by unfold rtO; rw [updO_ne h]
def Ob.own : Ob → Bool
  | .al _ _ _ => false
  | _ => true
theorem addQ_iff {ex : Nat → Bool} {n k : Nat} : addQ ex n k = true ↔ ex k = true ∨ k = n := by simp [addQ]
theorem al_upd {ex : Nat → Bool} {obj : Nat → Option Ob} {n : Nat} {x : Ob} (h : ∀ k r D st, ex k = true → obj k = some (.al r D st) → ex r = true ∧ ∃ n, obj r = some (.pl n)) (hn : ex n = false) (hx : ∀ r D st, x = .al r D st → ex r = true ∧ ∃ n, obj r = some (.pl n)) :
    ∀ k r D st, addQ ex n k = true → updO obj n x k = some (.al r D st) → addQ ex n r = true ∧ ∃ m, updO obj n x r = some (.pl m) := by
  have key : ∀ r, ex r = true → (∃ m, obj r = some (.pl m)) → addQ ex n r = true ∧ ∃ m, updO obj n x r = some (.pl m) := fun r h1 h2 => ⟨addQ_iff.2 (.inl h1), by
    obtain ⟨m, h2⟩ := h2
    exact ⟨m, by rw [updO_ne (fun e => by rw [e, hn] at h1; cases h1)]; exact h2⟩⟩
  intro k r D st hk ho
  by_cases e : k = n
  · rw [e, updO_eq] at ho
    obtain ⟨h1, h2⟩ := hx r D st (Option.some.inj ho)
    exact key r h1 h2
  · rw [updO_ne e] at ho
    obtain ⟨h1, h2⟩ := h k r D st ((addQ_iff.1 hk).elim id (fun a => absurd a e)) ho
    exact key r h1 h2
theorem Good.push {B0 m0 n : Nat} {w0 : World} {ex : Nat → Bool} {obj : Nat → Option Ob} {β : Env} {w w' : World} (h : Good B0 m0 w0 ex obj β w) (hb : Below w.heap.size w w') (hn : ex n = false) (hl : w.heap.size ≤ β n) (hlt : β n < w'.heap.size) {x : Ob} (hx : x.holds β w' (β n)) (ho : x.of ex = true) (hown : x.own = true) :
    Good B0 m0 w0 (addQ ex n) (updO obj n x) β w' := by
  have hmono : ∀ k, ex k = true → addQ ex n k = true := fun k hk => addQ_iff.2 (.inl hk)
  have hexn : ∀ k, ex k = true → k ≠ n := fun k hk e => by rw [e, hn] at hk; cases hk
  have h' := h.on hb
  refine ⟨h'.bel, h'.le, ?_, ?_, ?_, ?_, al_upd h.al hn (fun r D st e => by rw [e] at hown; cases hown)⟩
  · intro k o hk hko
    by_cases e : k = n
    · rw [e, updO_eq] at hko
      obtain rfl := Option.some.inj hko
      rw [e]
      exact ⟨hx, Ob.of_mono hmono _ ho⟩
    · rw [updO_ne e] at hko
      have hk1 := (addQ_iff.1 hk).elim id (fun a => absurd a e)
      exact ⟨(h'.hold k o hk1 hko).1, Ob.of_mono hmono _ (h'.hold k o hk1 hko).2⟩
  · intro k hk
    rcases addQ_iff.1 hk with hk | rfl
    · exact h'.lt k hk
    · exact hlt
  · intro k j hk hj hne hm
    rcases addQ_iff.1 hk with hk1 | e1
    · rcases addQ_iff.1 hj with hj1 | e2
      · rw [rtO_ne (hexn k hk1), rtO_ne (hexn j hj1)] at hne
        exact h'.ne k j hk1 hj1 hne hm
      · have := h.lt k hk1; rw [e2]; omega
    · rcases addQ_iff.1 hj with hj1 | e2
      · have := h.lt j hj1; rw [e1]; omega
      · exact absurd (by rw [e1, e2]) hne
  · intro k hk hm
    rcases addQ_iff.1 hk with hk | rfl
    · exact h'.low k hk hm
    · exact Nat.le_trans h.le hl
theorem heap_set (w : World) (b i : Nat) (u : Value) (k : Nat) (h : k ≠ b) : (w.setCell ⟨b, i, none⟩ u).heap[k]? = w.heap[k]? := Below.heap_setCell w ⟨b, i, none⟩ u k h
theorem heap_set_at {w : World} {b i : Nat} {u : Value} {cs : Array Value} {t : TypeId} {fr : Nat × Nat} (h : w.heap[b]? = some (.cells cs t fr)) : (w.setCell ⟨b, i, none⟩ u).heap[b]? = some (.cells (cs.setIfInBounds i u) t fr) := by
  simp [World.setCell, Array.getElem?_modify, h]
theorem size_set (w : World) (a : Addr) (u : Value) : (w.setCell a u).heap.size = w.heap.size := by simp [World.setCell]
theorem Good.rt_box {B0 m0 i k : Nat} {w0 : World} {ex : Nat → Bool} {obj : Nat → Option Ob} {β : Env} {w : World} (h : Good B0 m0 w0 ex obj β w) {cs : List Lf} {t : TypeId} (hx : obj i = some (.box cs t)) (hk : ex k = true) (e : k ≠ i) : rtO obj i ≠ rtO obj k := by
  have h1 : rtO obj i = i := by unfold rtO; rw [hx]
  rw [h1]
  unfold rtO
  split
  · rename_i r D st hr
    obtain ⟨_, n, h2⟩ := h.al k r D st hk hr
    rintro rfl
    rw [hx] at h2
    cases h2
  · exact Ne.symm e
theorem Good.put {B0 m0 i o : Nat} {w0 : World} {ex : Nat → Bool} {obj : Nat → Option Ob} {β : Env} {w : World} (h : Good B0 m0 w0 ex obj β w) (hi : ex i = true) {cs : List Lf} {t : TypeId} (hx : obj i = some (.box cs t)) (hm : m0 ≤ i) (ht : t ≠ 271) (l : Lf) (hl : l.of ex = true) (hlt : o < cs.length) :
    Good B0 m0 w0 ex (updO obj i (.box (cs.set o l) t)) β (w.setCell ⟨β i, o, none⟩ (l.den β)) := by
  have hbox := (h.hold i _ hi hx).1
  simp only [Ob.holds] at hbox
  have hslot : Slot w (β i) o 1 := ⟨_, t, hbox, ht, by simp; omega⟩
  have htouch : Touch w (w.setCell ⟨β i, o, none⟩ (l.den β)) (β i) o 1 := (Touch.refl w (β i) o 1).set_ o ⟨Nat.le_refl _, by omega⟩ _
  have hrt : ∀ k, rtO (updO obj i (.box (cs.set o l) t)) k = rtO obj k := fun k => by
    by_cases e : k = i
    · subst e; unfold rtO; rw [updO_eq, hx]
    · exact rtO_ne e
  refine ⟨h.bel.setCell (h.low i hi hm) _, by rw [size_set]; exact h.le, ?_, fun k hk => by rw [size_set]; exact h.lt k hk, fun k j hk hj hne => h.ne k j hk hj (by rw [← hrt k, ← hrt j]; exact hne), h.low, fun k r D st hk ho => ?_⟩
  · intro k x hk hko
    by_cases e : k = i
    · subst e
      rw [updO_eq] at hko
      obtain rfl := Option.some.inj hko
      refine ⟨?_, ?_⟩
      · simp only [Ob.holds]
        rw [heap_set_at hbox]
        congr 2
        rw [List.map_set]
        simp
      · have h1 := (h.hold k _ hk hx).2
        simp only [Ob.of, List.all_eq_true] at h1 ⊢
        intro y hy
        rcases List.mem_or_eq_of_mem_set hy with hy | rfl
        · exact h1 y hy
        · exact hl
    · rw [updO_ne e] at hko
      have hne := h.ne i k hi hk (h.rt_box hx hk e) hm
      refine ⟨?_, (h.hold k x hk hko).2⟩
      have hh := (h.hold k x hk hko).1
      cases x with
      | box cs' t' =>
        simp only [Ob.holds] at hh ⊢
        rw [heap_set _ _ _ _ _ (Ne.symm hne)]
        exact hh
      | th D st => exact st.touch w _ _ _ _ _ _ hh hslot htouch (Ne.symm hne)
      | al r D st => exact st.touch w _ _ _ _ _ _ hh hslot htouch (Ne.symm hne)
      | pl n => exact Slot.touch hh htouch
  · have e : k ≠ i := fun e => by rw [e, updO_eq] at ho; cases ho
    rw [updO_ne e] at ho
    obtain ⟨h1, n, h2⟩ := h.al k r D st hk ho
    exact ⟨h1, n, by rw [updO_ne (fun e => by rw [e, hx] at h2; cases h2)]; exact h2⟩
theorem Good.fill {B0 m0 n i N : Nat} {w0 : World} {ex : Nat → Bool} {obj : Nat → Option Ob} {β : Env} {w w' : World} (h : Good B0 m0 w0 ex obj β w) (hi : ex i = true) (hx : obj i = some (.pl N)) (hm : m0 ≤ i) (hn : ex n = false) (hβ : β n = β i) (hno : ∀ k, ex k = true → k ≠ i → rtO obj k ≠ i)
    (ht : Touch w w' (β i) 0 N) {D : World → Nat → Prop} (st : Stable D) (hD : D w' (β i)) : Good B0 m0 w0 (addQ ex n) (updO obj n (.al i D st)) β w' := by
  have hslot : Slot w (β i) 0 N := (h.hold i _ hi hx).1
  have hmono : ∀ k, ex k = true → addQ ex n k = true := fun k hk => addQ_iff.2 (.inl hk)
  have hexn : ∀ k, ex k = true → k ≠ n := fun k hk e => by rw [e, hn] at hk; cases hk
  have hri : rtO obj i = i := by unfold rtO; rw [hx]
  refine ⟨h.bel.trans (ht.below (h.low i hi hm) h.le), Nat.le_trans h.le ht.size, ?_, ?_, ?_, ?_, al_upd h.al hn (fun r D' st' e => by injection e with e1 _; subst e1; exact ⟨hi, N, hx⟩)⟩
  · intro k o hk hko
    by_cases e : k = n
    · rw [e, updO_eq] at hko
      obtain rfl := Option.some.inj hko
      rw [e]
      exact ⟨by rw [hβ]; exact hD, rfl⟩
    · rw [updO_ne e] at hko
      have hk1 := (addQ_iff.1 hk).elim id (fun a => absurd a e)
      have hh := (h.hold k o hk1 hko).1
      refine ⟨?_, Ob.of_mono hmono _ (h.hold k o hk1 hko).2⟩
      by_cases e2 : k = i
      · rw [e2, hx] at hko
        obtain rfl := Option.some.inj hko
        exact Slot.touch hh ht
      · have hne := h.ne i k hi hk1 (by rw [hri]; exact Ne.symm (hno k hk1 e2)) hm
        cases o with
        | box cs' t' =>
          simp only [Ob.holds] at hh ⊢
          rw [ht.block _ (h.lt k hk1) (Ne.symm hne)]
          exact hh
        | th D' st' => exact st'.touch w _ _ _ _ _ _ hh hslot ht (Ne.symm hne)
        | al r D' st' => exact st'.touch w _ _ _ _ _ _ hh hslot ht (Ne.symm hne)
        | pl m => exact Slot.touch hh ht
  · intro k hk
    rcases addQ_iff.1 hk with hk | rfl
    · exact Nat.lt_of_lt_of_le (h.lt k hk) ht.size
    · rw [hβ]; exact Nat.lt_of_lt_of_le (h.lt i hi) ht.size
  · have hrn : rtO (updO obj n (.al i D st)) n = i := by unfold rtO; rw [updO_eq]
    intro k j hk hj hne hm'
    by_cases e1 : k = n
    · by_cases e2 : j = n
      · exact absurd (by rw [e1, e2]) hne
      · have hj1 := (addQ_iff.1 hj).elim id (fun a => absurd a e2)
        rw [e1, hrn, rtO_ne e2] at hne
        rw [e1, hβ]
        exact h.ne i j hi hj1 (by rw [hri]; exact hne) hm
    · have hk1 := (addQ_iff.1 hk).elim id (fun a => absurd a e1)
      rw [rtO_ne e1] at hne
      by_cases e2 : j = n
      · rw [e2, hrn] at hne
        rw [e2, hβ]
        exact h.ne k i hk1 hi (by rw [hri]; exact hne) hm'
      · have hj1 := (addQ_iff.1 hj).elim id (fun a => absurd a e2)
        rw [rtO_ne e2] at hne
        exact h.ne k j hk1 hj1 hne hm'
  · intro k hk hm'
    rcases addQ_iff.1 hk with hk | rfl
    · exact h.low k hk hm'
    · rw [hβ]; exact h.low i hi hm
theorem Good.weak {B0 m0 i N : Nat} {w0 : World} {ex : Nat → Bool} {obj : Nat → Option Ob} {β : Env} {w : World} (h : Good B0 m0 w0 ex obj β w) {cs : List Lf} {t : TypeId} (hx : obj i = some (.box cs t)) (ht : t ≠ 271) (hN : N ≤ cs.length) : Good B0 m0 w0 ex (updO obj i (.pl N)) β w := by
  have hrt : ∀ k, rtO (updO obj i (.pl N)) k = rtO obj k := fun k => by
    by_cases e : k = i
    · subst e; unfold rtO; rw [updO_eq, hx]
    · exact rtO_ne e
  refine ⟨h.bel, h.le, ?_, h.lt, fun k j hk hj hne => h.ne k j hk hj (by rw [← hrt k, ← hrt j]; exact hne), h.low, fun k r D st hk ho => ?_⟩
  · intro k o hk hko
    by_cases e : k = i
    · subst e
      rw [updO_eq] at hko
      obtain rfl := Option.some.inj hko
      have hb := (h.hold k _ hk hx).1
      exact ⟨⟨_, t, hb, ht, by simpa using hN⟩, rfl⟩
    · rw [updO_ne e] at hko
      exact h.hold k o hk hko
  · have e : k ≠ i := fun e => by rw [e, updO_eq] at ho; cases ho
    rw [updO_ne e] at ho
    obtain ⟨h1, n, h2⟩ := h.al k r D st hk ho
    exact ⟨h1, n, by rw [updO_ne (fun e => by rw [e, hx] at h2; cases h2)]; exact h2⟩
def trEnd (β : Env) : World → List Tr → World
  | w, [] => w
  | w, .st i o l :: r => trEnd β (w.setCell ⟨β i, o, none⟩ (l.den β)) r
  | w, .nw n cs t :: r => trEnd β (w.alloc (.cells (cs.map (Lf.den β)).toArray t (0, 0))) r
  | w, .ld _ _ _ :: r => trEnd β w r
  | w, .sh _ _ _ :: r => trEnd β w r
  | w, .fz _ _ :: r => trEnd β w r
  | w, .go :: r => trEnd β w r
def trOk (β : Env) : World → List Tr → Prop
  | _, [] => True
  | w, .ld i o l :: r => w.cell? ⟨β i, o, none⟩ = some (l.den β) ∧ trOk β w r
  | w, .st i o l :: r => ((∃ v, w.cell? ⟨β i, o, none⟩ = some v) ∧ w.frozen? ⟨β i, o, none⟩ = false ∧ isScalar (l.den β) = true) ∧ trOk β (w.setCell ⟨β i, o, none⟩ (l.den β)) r
  | w, .nw n cs t :: r => β n = w.heap.size ∧ trOk β (w.alloc (.cells (cs.map (Lf.den β)).toArray t (0, 0))) r
  | w, .sh i t m :: r => w.shape? (β i) = some (t, m) ∧ trOk β w r
  | w, .fz i o :: r => w.frozen? ⟨β i, o, none⟩ = false ∧ trOk β w r
  | w, .go :: r => trOk β w r
theorem Eqs.no_ok (h : Eqs.ok Eqs.no) : False := by
  have := h (.n 0, .n 1) (by simp [Eqs.no])
  simp at this
theorem Eqs.cons_ok {a b : Tm} {l : Eqs} (h : Eqs.ok ((a, b) :: l)) : a = b ∧ Eqs.ok l := ⟨h (a, b) (by simp), fun p hp => h p (by simp [hp])⟩
theorem chk_run {α : Type} {P : Program} {β : Env} {f : α → Eqs} : ∀ (s : Sem α) (tr : List Tr) (w : World), Eqs.ok (chk P β s tr f) → trOk β w tr → ∃ a, s.run P w = .ok a (trEnd β w tr) ∧ Eqs.ok (f a) := by
  intro s
  induction s with
  | pure a =>
    intro tr w h _
    cases tr with
    | nil => exact ⟨a, rfl, h⟩
    | cons x r => exact (Eqs.no_ok h).elim
  | load m a k ih =>
    intro tr w h hk
    cases tr with
    | nil => exact (Eqs.no_ok h).elim
    | cons x r =>
      cases x <;> first | exact (Eqs.no_ok h).elim | skip
      rename_i i o l
      obtain ⟨h1, h2⟩ := Eqs.cons_ok h
      injection h1 with h1; injection h1 with h1; injection h1 with h1
      obtain ⟨k1, k2⟩ := hk
      subst h1
      obtain ⟨b, hb, hf⟩ := ih _ r w h2 k2
      exact ⟨b, by simp only [Sem.run, k1, trEnd]; exact hb, hf⟩
  | store m a v k ih =>
    intro tr w h hk
    cases tr with
    | nil => exact (Eqs.no_ok h).elim
    | cons x r =>
      cases x <;> first | exact (Eqs.no_ok h).elim | skip
      rename_i i o l
      obtain ⟨h1, h2⟩ := Eqs.cons_ok h
      obtain ⟨h3, h4⟩ := Eqs.cons_ok h2
      injection h1 with h1; injection h1 with h1; injection h1 with h1
      injection h3 with h3
      obtain ⟨⟨⟨u, k1⟩, k2, k3⟩, k4⟩ := hk
      subst h1
      obtain ⟨b, hb, hf⟩ := ih r _ h4 k4
      refine ⟨b, ?_, hf⟩
      rw [← h3] at k3 hb
      simp only [trEnd]
      rw [← h3]
      cases v <;> first | (simp [isScalar] at k3; done) | (simp only [Sem.run, k1, k2]; exact hb)
  | new x k ih =>
    intro tr w h hk
    cases tr with
    | nil => exact (Eqs.no_ok h).elim
    | cons y r =>
      cases y <;> first | exact (Eqs.no_ok h).elim | skip
      rename_i n cs t
      obtain ⟨h1, h2⟩ := Eqs.cons_ok h
      injection h1 with h1
      obtain ⟨k1, k2⟩ := hk
      obtain ⟨b, hb, hf⟩ := ih _ r _ h2 k2
      refine ⟨b, ?_, hf⟩
      subst h1
      simp only [Sem.run, trEnd]
      rw [← k1]
      exact hb
  | shape b k ih =>
    intro tr w h hk
    cases tr with
    | nil => exact (Eqs.no_ok h).elim
    | cons x r =>
      cases x <;> first | exact (Eqs.no_ok h).elim | skip
      rename_i i t m
      obtain ⟨h1, h2⟩ := Eqs.cons_ok h
      injection h1 with h1
      obtain ⟨k1, k2⟩ := hk
      subst h1
      obtain ⟨b, hb, hf⟩ := ih _ r w h2 k2
      exact ⟨b, by simp only [Sem.run, k1, trEnd]; exact hb, hf⟩
  | freeze a n k ih => intro tr w h _; cases tr with
    | nil => exact (Eqs.no_ok h).elim
    | cons x r => cases x <;> exact (Eqs.no_ok h).elim
  | frozen a k ih =>
    intro tr w h hk
    cases tr with
    | nil => exact (Eqs.no_ok h).elim
    | cons x r =>
      cases x <;> first | exact (Eqs.no_ok h).elim | skip
      rename_i i o
      obtain ⟨h1, h2⟩ := Eqs.cons_ok h
      injection h1 with h1; injection h1 with h1; injection h1 with h1
      obtain ⟨k1, k2⟩ := hk
      subst h1
      obtain ⟨b, hb, hf⟩ := ih _ r w h2 k2
      exact ⟨b, by simp only [Sem.run, k1, trEnd]; exact hb, hf⟩
  | getObj r k ih => intro tr w h _; cases tr with
    | nil => exact (Eqs.no_ok h).elim
    | cons x r => cases x <;> exact (Eqs.no_ok h).elim
  | setObj r o k ih => intro tr w h _; cases tr with
    | nil => exact (Eqs.no_ok h).elim
    | cons x r => cases x <;> exact (Eqs.no_ok h).elim
  | choose r k ih => intro tr w h _; cases tr with
    | nil => exact (Eqs.no_ok h).elim
    | cons x r => cases x <;> exact (Eqs.no_ok h).elim
  | sys r k ih => intro tr w h _; cases tr with
    | nil => exact (Eqs.no_ok h).elim
    | cons x r => cases x <;> exact (Eqs.no_ok h).elim
  | program k ih =>
    intro tr w h hk
    cases tr with
    | nil => exact (Eqs.no_ok h).elim
    | cons x r =>
      cases x <;> first | exact (Eqs.no_ok h).elim | skip
      obtain ⟨b, hb, hf⟩ := ih _ r w h hk
      exact ⟨b, hb, hf⟩
  | mark m k ih =>
    intro tr w h hk
    cases tr with
    | nil => exact (Eqs.no_ok h).elim
    | cons x r =>
      cases x <;> first | exact (Eqs.no_ok h).elim | skip
      obtain ⟨b, hb, hf⟩ := ih r w h hk
      exact ⟨b, hb, hf⟩
  | halt h => intro tr w h _; cases tr with
    | nil => exact (Eqs.no_ok h).elim
    | cons x r => cases x <;> exact (Eqs.no_ok h).elim
end
section
open Go Go.RowKit
def Run1Ok {α : Type} (m0 : Nat) (st : Bool) (q : Nat → Bool) (ob : List Ob) (tr0 : List Tr) (r : R1 α) : Prop :=
  ob.length ≤ r.ob.length ∧ (∀ k, r.q k = true ↔ q k = true ∨ (ob.length ≤ k ∧ k < r.ob.length)) ∧ (st = false → ∃ l, r.ob = ob ++ l) ∧
  ∃ tr, r.tr = tr.reverse ++ tr0 ∧ ∀ (B0 : Nat) (w0 : World) (ex : Nat → Bool) (obj : Nat → Option Ob) (β : Env) (w : World), Good B0 m0 w0 ex obj β w → (∀ k, q k = true → ex k = true ∧ obj k = ob[k]?) →
    (∀ k, ob.length ≤ k → k < r.ob.length → ex k = false ∧ β k = w.heap.size + (k - ob.length)) → m0 ≤ ob.length →
    trOk β w tr ∧ ∃ obj', (∀ k, r.q k = true → obj' k = r.ob[k]?) ∧ (∀ k, r.q k = false → obj' k = obj k) ∧ Good B0 m0 w0 (rangeQ ex ob.length r.ob.length) obj' β (trEnd β w tr)
theorem rangeQ_iff {q : Nat → Bool} {n m k : Nat} : rangeQ q n m k = true ↔ q k = true ∨ (n ≤ k ∧ k < m) := by
  unfold rangeQ
  rw [Bool.or_eq_true, Bool.and_eq_true, Nat.ble_eq, Nat.blt_eq]
theorem rangeQ_self (q : Nat → Bool) (n : Nat) : rangeQ q n n = q := by
  funext k
  rw [Bool.eq_iff_iff, rangeQ_iff]
  constructor
  · rintro (h | h)
    · exact h
    · omega
  · exact .inl
theorem ownQ_eq {q : Nat → Bool} {b i : Nat} (h : ownQ q b = some i) : i = b ∧ q b = true := by
  unfold ownQ at h
  rw [lit_eq] at h
  cases hq : q b with
  | true => rw [hq] at h; exact ⟨(Option.some.inj h).symm, rfl⟩
  | false => rw [hq] at h; cases h
theorem cell_box {β : Env} {w : World} {g o : Nat} {cs : List Lf} {t : TypeId} {l : Lf} (h : w.heap[g]? = some (.cells (cs.map (Lf.den β)).toArray t (0, 0))) (hl : cs[o]? = some l) : w.cell? ⟨g, o, none⟩ = some (l.den β) := by
  simp [World.cell?, h, hl]
theorem frozen_box {w : World} {g o : Nat} {cs : Array Value} {t : TypeId} (h : w.heap[g]? = some (.cells cs t (0, 0))) : w.frozen? ⟨g, o, none⟩ = false := by
  simp [World.frozen?, h]
theorem Good.box {B0 m0 i : Nat} {w0 : World} {ex : Nat → Bool} {obj : Nat → Option Ob} {β : Env} {w : World} (h : Good B0 m0 w0 ex obj β w) (hi : ex i = true) {cs : List Lf} {t : TypeId} (hx : obj i = some (.box cs t)) : w.heap[β i]? = some (.cells (cs.map (Lf.den β)).toArray t (0, 0)) := (h.hold i _ hi hx).1
theorem alloc_heap (w : World) (o : Obj) : (w.alloc o).heap = w.heap.push o := rfl
theorem scalar_den {β : Env} : ∀ {l : Lf}, l.scalar = true → isScalar (l.den β) = true
  | .b (.v x), h => h
  | .b (.p _ _), _ => rfl
  | .b (.s _ _ _ _), _ => rfl
  | .f _ _ _, _ => rfl
theorem Run1Ok.skip {α : Type} {m0 : Nat} {st : Bool} {q : Nat → Bool} {ob : List Ob} {tr0 : List Tr} {r : R1 α} (x : Tr) (h : Run1Ok m0 st q ob (x :: tr0) r)
    (hx : ∀ (B0 : Nat) (w0 : World) (ex : Nat → Bool) (obj : Nat → Option Ob) (β : Env) (w : World), Good B0 m0 w0 ex obj β w → (∀ k, q k = true → ex k = true ∧ obj k = ob[k]?) → ∀ tr, trOk β w tr → trOk β w (x :: tr) ∧ trEnd β w (x :: tr) = trEnd β w tr) : Run1Ok m0 st q ob tr0 r := by
  obtain ⟨h1, h2, h3, tr, h4, h5⟩ := h
  refine ⟨h1, h2, h3, x :: tr, by rw [h4]; simp, fun B0 w0 ex obj β w g hq hn hm => ?_⟩
  obtain ⟨k1, k2⟩ := h5 B0 w0 ex obj β w g hq hn hm
  obtain ⟨k3, k4⟩ := hx B0 w0 ex obj β w g hq tr k1
  rw [k4]
  exact ⟨k3, k2⟩
theorem run1_ok {α : Type} {P : Program} {m0 : Nat} {st : Bool} : ∀ (s : Sem α) (q : Nat → Bool) (ob : List Ob) (tr0 : List Tr) (r : R1 α), run1 P m0 st s q ob tr0 = some r → (∀ k, q k = true → k < ob.length) → Run1Ok m0 st q ob tr0 r := by
  intro s
  induction s with
  | pure a =>
    intro q ob tr0 r h hq
    simp only [run1] at h
    obtain rfl := Option.some.inj h
    refine ⟨Nat.le_refl _, fun k => ⟨.inl, fun h => h.elim id (fun h => by have := h.1; have := h.2; simp only at this; omega)⟩, fun _ => ⟨[], by simp⟩, [], by simp, fun B0 w0 ex obj β w g hx hn hm => ?_⟩
    exact ⟨trivial, obj, fun k hk => (hx k hk).2, fun _ _ => rfl, by rw [rangeQ_self]; exact g⟩
  | load m a k ih =>
    intro q ob tr0 r h hq
    obtain ⟨b, o, sp⟩ := a
    cases sp with
    | some n => simp only [run1] at h; cases h
    | none =>
      simp only [run1] at h
      split at h
      · rename_i i hi
        obtain ⟨rfl, hqb⟩ := ownQ_eq hi
        split at h
        · rename_i cs t hob
          rw [lit_eq] at h
          split at h
          · rename_i l hl
            refine Run1Ok.skip (.ld i o l) (ih _ q ob _ r h hq) fun B0 w0 ex obj β w g hx tr htr => ⟨⟨?_, htr⟩, rfl⟩
            obtain ⟨h1, h2⟩ := hx i hqb
            exact cell_box (g.box h1 (by rw [h2]; exact hob)) hl
          · cases h
        · cases h
      · cases h
  | store m a v k ih =>
    intro q ob tr0 r h hq
    obtain ⟨b, o, sp⟩ := a
    cases sp with
    | some n => simp only [run1] at h; cases h
    | none =>
      simp only [run1] at h
      split at h
      · rename_i i hi
        obtain ⟨rfl, hqb⟩ := ownQ_eq hi
        split at h
        · rename_i cs t hob
          rw [lit_eq] at h
          rw [cond_eq_ite] at h
          split at h
          · rename_i hc
            simp only [Bool.and_eq_true, Nat.ble_eq, Nat.blt_eq, Bool.not_eq_true', beq_eq_false_iff_ne] at hc
            obtain ⟨⟨⟨⟨⟨hst, hmi⟩, hof⟩, hsc⟩, hlt⟩, ht⟩ := hc
            have ht : t ≠ 271 := fun e => by rw [e] at ht; exact absurd ht (by decide)
            obtain ⟨h1, h2, h3, tr, h4, h5⟩ := ih q _ _ r h (fun k hk => by rw [List.length_set]; exact hq k hk)
            rw [List.length_set] at h1 h5
            refine ⟨h1, ?_, fun e => (by rw [hst] at e; cases e), .st i o (tag1 v) :: tr, by rw [h4]; simp, fun B0 w0 ex obj β w g hx hn hm => ?_⟩
            · intro k; rw [h2 k, List.length_set]
            obtain ⟨g1, g2⟩ := hx i hqb
            have hb := g.box g1 (by rw [g2]; exact hob)
            have gp := g.put (o := o) g1 (by rw [g2]; exact hob) hmi ht (tag1 v) (Lf.of_mono (fun k hk => (hx k hk).1) _ hof) hlt
            obtain ⟨k1, obj', k2, k3, k4⟩ := h5 B0 w0 ex _ β _ gp (fun k hk => ⟨(hx k hk).1, by
              unfold updO
              rw [List.getElem?_set]
              by_cases e : k = i
              · rw [if_pos e, if_pos e.symm]; rw [if_pos (by rw [e] at hk; exact hq i hk)]
              · rw [if_neg e, if_neg (Ne.symm e)]; exact (hx k hk).2⟩) (fun k a b => by rw [size_set]; exact hn k a b) hm
            refine ⟨⟨⟨?_, frozen_box hb, scalar_den hsc⟩, k1⟩, obj', k2, ?_, k4⟩
            · have : o < (cs.map (Lf.den β)).length := by simpa using hlt
              exact ⟨_, cell_box hb (l := cs[o]'hlt) (by simp)⟩
            · intro k hk
              rw [k3 k hk]
              unfold updO
              rw [if_neg]
              rintro rfl
              have : r.q k = true := (h2 k).2 (.inl hqb)
              rw [hk] at this
              cases this
          · cases h
        · cases h
      · cases h
  | new x k ih =>
    intro q ob tr0 r h hq
    cases x <;> simp only [run1] at h <;> first | (cases h; done) | skip
    rename_i cs t fr
    rw [cond_eq_ite] at h
    split at h
    · rename_i hof
      rw [lit_eq] at h
      have hadd : ∀ j, addQ q ob.length j = true ↔ q j = true ∨ j = ob.length := fun j => by simp [addQ]
      obtain ⟨h1, h2, h3, tr, h4, h5⟩ := ih _ _ _ _ r h (fun j hj => by
        rw [List.length_append]; simp only [List.length_cons, List.length_nil]
        rcases (hadd j).1 hj with a | a
        · have := hq j a; omega
        · omega)
      rw [List.length_append] at h1 h5
      simp only [List.length_cons, List.length_nil] at h1 h5
      refine ⟨by omega, ?_, fun e => ?_, .nw ob.length (cs.toList.map tag1) t :: tr, by rw [h4]; simp, fun B0 w0 ex obj β w g hx hn hm => ?_⟩
      · intro j
        rw [h2 j, List.length_append, hadd j]
        simp only [List.length_cons, List.length_nil]
        constructor
        · rintro ((a | a) | a)
          · exact .inl a
          · exact .inr ⟨by omega, by omega⟩
          · exact .inr ⟨by omega, a.2⟩
        · rintro (a | a)
          · exact .inl (.inl a)
          · by_cases e : j = ob.length
            · exact .inl (.inr e)
            · exact .inr ⟨by omega, a.2⟩
      · obtain ⟨l, hl⟩ := h3 e
        exact ⟨_, by rw [hl, List.append_assoc]⟩
      · obtain ⟨n1, n2⟩ := hn ob.length (Nat.le_refl _) (by omega)
        rw [Nat.sub_self, Nat.add_zero] at n2
        have hbel : Below w.heap.size w (w.alloc (.cells ((cs.toList.map tag1).map (Lf.den β)).toArray t (0, 0))) := (Below.refl _ _).alloc (Nat.le_refl _) _
        have gp := g.push (n := ob.length) hbel n1 (by rw [n2]; exact Nat.le_refl _) (by rw [n2, alloc_heap, Array.size_push]; exact Nat.lt_succ_self _) (x := .box (cs.toList.map tag1) t) (by simp only [Ob.holds]; rw [n2, alloc_heap]; simp) (by simp only [Ob.of]; exact all_mono hof (Lf.of_mono fun j hj => (hx j hj).1)) rfl
        obtain ⟨k1, obj', k2, k3, k4⟩ := h5 B0 w0 _ _ β _ gp (fun j hj => by
          rcases (hadd j).1 hj with a | a
          · have hj2 := hq j a
            refine ⟨by simp [addQ, (hx j a).1], ?_⟩
            unfold updO
            rw [if_neg (by omega), List.getElem?_append_left hj2]
            exact (hx j a).2
          · subst a
            refine ⟨by simp [addQ], ?_⟩
            unfold updO
            rw [if_pos rfl]
            simp) (fun j a b => by
          obtain ⟨m1, m2⟩ := hn j (by omega) b
          refine ⟨?_, ?_⟩
          · unfold addQ
            rw [m1, Bool.false_or]
            exact Bool.eq_false_iff.2 (fun e => by have := Nat.eq_of_beq_eq_true e; omega)
          · rw [m2, alloc_heap, Array.size_push]; omega) (by omega)
        refine ⟨⟨n2, k1⟩, obj', k2, ?_, ?_⟩
        · intro j hj
          rw [k3 j hj]
          unfold updO
          rw [if_neg]
          rintro rfl
          have : r.q ob.length = true := (h2 _).2 (.inl ((hadd _).2 (.inr rfl)))
          rw [hj] at this
          cases this
        · refine k4.view (fun j => ?_) (fun _ _ => rfl)
          rw [Bool.eq_iff_iff, rangeQ_iff, rangeQ_iff]
          simp only [addQ, Bool.or_eq_true, Nat.beq_eq]
          constructor
          · rintro (a | a)
            · exact .inl (.inl a)
            · by_cases e : j = ob.length
              · exact .inl (.inr e)
              · exact .inr ⟨by omega, a.2⟩
          · rintro ((a | a) | a)
            · exact .inl a
            · exact .inr ⟨by omega, by omega⟩
            · exact .inr ⟨by omega, a.2⟩
    · cases h
  | shape b k ih =>
    intro q ob tr0 r h hq
    simp only [run1] at h
    split at h
    · rename_i i hi
      obtain ⟨rfl, hqb⟩ := ownQ_eq hi
      split at h
      · rename_i cs t hob
        refine Run1Ok.skip (.sh i t cs.length) (ih _ q ob _ r h hq) fun B0 w0 ex obj β w g hx tr htr => ⟨⟨?_, htr⟩, rfl⟩
        obtain ⟨h1, h2⟩ := hx i hqb
        have := g.box h1 (by rw [h2]; exact hob)
        simp [World.shape?, this]
      · cases h
    · cases h
  | freeze a n k ih => intro q ob tr0 r h hq; simp only [run1] at h; cases h
  | frozen a k ih =>
    intro q ob tr0 r h hq
    obtain ⟨b, o, sp⟩ := a
    cases sp with
    | some n => simp only [run1] at h; cases h
    | none =>
      simp only [run1] at h
      split at h
      · rename_i i hi
        obtain ⟨rfl, hqb⟩ := ownQ_eq hi
        split at h
        · rename_i cs t hob
          refine Run1Ok.skip (.fz i o) (ih _ q ob _ r h hq) fun B0 w0 ex obj β w g hx tr htr => ⟨⟨?_, htr⟩, rfl⟩
          obtain ⟨h1, h2⟩ := hx i hqb
          exact frozen_box (g.box h1 (by rw [h2]; exact hob))
        · cases h
      · cases h
  | getObj r k ih => intro q ob tr0 r h hq; simp only [run1] at h; cases h
  | setObj r o k ih => intro q ob tr0 r h hq; simp only [run1] at h; cases h
  | choose c k ih => intro q ob tr0 r h hq; simp only [run1] at h; cases h
  | sys c k ih => intro q ob tr0 r h hq; simp only [run1] at h; cases h
  | program k ih =>
    intro q ob tr0 r h hq
    simp only [run1] at h
    exact Run1Ok.skip .go (ih _ q ob _ r h hq) fun _ _ _ _ _ _ _ _ tr htr => ⟨htr, rfl⟩
  | mark m k ih =>
    intro q ob tr0 r h hq
    simp only [run1] at h
    exact Run1Ok.skip .go (ih q ob _ r h hq) fun _ _ _ _ _ _ _ _ tr htr => ⟨htr, rfl⟩
  | halt x => intro q ob tr0 r h hq; simp only [run1] at h; cases h
def slotOf (q : Nat → Bool) (sl : List (Nat × SV)) : Operand → Prop
  | .tmp t => (look sl t).of q = true
  | _ => True
theorem evS_congr {q : Nat → Bool} {β β' : Env} {sl : List (Nat × SV)} (hq : ∀ k, q k = true → β k = β' k) : ∀ y : Operand, slotOf q sl y → evS β sl y = evS β' sl y
  | .tmp t, h => SV.den_congr hq _ h
  | .const _, _ => rfl
  | .global _, _ => rfl
  | .func _, _ => rfl
theorem noSelect_of {op : Op} (h : noSelectB op = true) : ∀ cs b, op ≠ .select cs b := by
  rintro cs b rfl
  cases h
theorem newHold_get {w : World} : ∀ {l : List Thing} {xs : List Nat}, newHold w l xs → xs.length = l.length ∧ ∀ (i : Nat) (t : Thing), l[i]? = some t → ∃ x, xs[i]? = some x ∧ t.D w x
  | [], [], _ => ⟨rfl, fun i t h => by simp at h⟩
  | t :: ts, x :: xs, h => by
    obtain ⟨h1, h2⟩ := newHold_get h.2
    refine ⟨by simp [h1], fun i u hu => ?_⟩
    cases i with
    | zero => simp at hu; subst hu; exact ⟨x, rfl, h.1⟩
    | succ i => simpa using h2 i u (by simpa using hu)
theorem extE_in {β : Env} {n i : Nat} {xs : List Nat} {x : Nat} (h : xs[i]? = some x) : extE β n xs (n + i) = x := by
  have h1 : Nat.ble n (n + i) = true := by rw [Nat.ble_eq]; omega
  simp [extE, h1, h]
theorem extE_out {β : Env} {n k : Nat} {xs : List Nat} (h : ¬(n ≤ k ∧ k < n + xs.length)) : extE β n xs k = β k := by
  unfold extE
  cases hb : Nat.ble n k with
  | false => rfl
  | true =>
    rw [Nat.ble_eq] at hb
    rw [List.getElem?_eq_none (by omega)]
    rfl
theorem Good.news {B0 m0 n : Nat} {w0 : World} {ex : Nat → Bool} {obj : Nat → Option Ob} {β : Env} {w w' : World} (h : Good B0 m0 w0 ex obj β w) (hb : Below w.heap.size w w') {l : List Thing} {xs : List Nat} (hl : newHold w' l xs) (hf : ∀ x ∈ xs, w.heap.size ≤ x) (hd : xs.Nodup)
    (hn : ∀ k, n ≤ k → k < n + l.length → ex k = false) : Good B0 m0 w0 (rangeQ ex n (n + l.length)) (fun k => if n ≤ k ∧ k < n + l.length then (l[k - n]?).map Thing.ob else obj k) (extE β n xs) w' := by
  obtain ⟨hlen, hget⟩ := newHold_get hl
  have hin : ∀ k, n ≤ k → k < n + l.length → ∃ t x, l[k - n]? = some t ∧ xs[k - n]? = some x ∧ t.D w' x ∧ extE β n xs k = x ∧ w.heap.size ≤ x := by
    intro k h1 h2
    have h3 : k - n < l.length := by omega
    obtain ⟨x, hx, hD⟩ := hget (k - n) _ (List.getElem?_eq_getElem h3)
    refine ⟨_, x, List.getElem?_eq_getElem h3, hx, hD, ?_, hf x (List.mem_of_getElem? hx)⟩
    have := extE_in (β := β) (n := n) hx
    rwa [show n + (k - n) = k by omega] at this
  have hold : ∀ k, ex k = true → ¬(n ≤ k ∧ k < n + l.length) := fun k hk h1 => by rw [hn k h1.1 h1.2] at hk; cases hk
  have hout : ∀ k, ex k = true → β k = extE β n xs k := fun k hk => (extE_out (by rw [hlen]; exact hold k hk)).symm
  have h' := (h.on hb).congr hout
  have hmono : ∀ k, ex k = true → rangeQ ex n (n + l.length) k = true := fun k hk => rangeQ_iff.2 (.inl hk)
  have hrt : ∀ k, ex k = true → rtO (fun k => if n ≤ k ∧ k < n + l.length then (l[k - n]?).map Thing.ob else obj k) k = rtO obj k := fun k hk => by unfold rtO; dsimp only; rw [if_neg (hold k hk)]
  refine ⟨h'.bel, h'.le, ?_, ?_, ?_, ?_, ?_⟩
  · intro k o hk hko
    rcases rangeQ_iff.1 hk with hk | hk
    · rw [if_neg (hold k hk)] at hko
      exact ⟨(h'.hold k o hk hko).1, Ob.of_mono hmono _ (h'.hold k o hk hko).2⟩
    · rw [if_pos hk] at hko
      obtain ⟨t, x, h1, h2, h3, h4, h5⟩ := hin k hk.1 hk.2
      rw [h1] at hko
      obtain rfl := Option.some.inj hko
      exact ⟨by rw [h4]; exact h3, rfl⟩
  · intro k hk
    rcases rangeQ_iff.1 hk with hk | hk
    · exact h'.lt k hk
    · obtain ⟨t, x, h1, h2, h3, h4, h5⟩ := hin k hk.1 hk.2
      rw [h4]
      exact t.st.lt _ _ h3
  · intro k j hk hj hne hm
    rcases rangeQ_iff.1 hk with hk | hk
    · rcases rangeQ_iff.1 hj with hj | hj
      · exact h'.ne k j hk hj (by rw [← hrt k hk, ← hrt j hj]; exact hne) hm
      · obtain ⟨t, x, h1, h2, h3, h4, h5⟩ := hin j hj.1 hj.2
        rw [h4, ← hout k hk]
        have := h.lt k hk
        omega
    · obtain ⟨t, x, h1, h2, h3, h4, h5⟩ := hin k hk.1 hk.2
      rcases rangeQ_iff.1 hj with hj | hj
      · rw [h4, ← hout j hj]
        have := h.lt j hj
        omega
      · obtain ⟨t', x', h1', h2', h3', h4', h5'⟩ := hin j hj.1 hj.2
        rw [h4, h4']
        intro e
        have h6 : k - n < xs.length := by omega
        have h7 : j - n < xs.length := by omega
        rw [List.getElem?_eq_getElem h6] at h2
        rw [List.getElem?_eq_getElem h7] at h2'
        have h8 := (List.getElem_inj hd).1 ((Option.some.inj h2).trans (e.trans (Option.some.inj h2').symm))
        exact hne (by rw [show k = j by omega])
  · intro k hk hm
    rcases rangeQ_iff.1 hk with hk | hk
    · exact h'.low k hk hm
    · obtain ⟨t, x, h1, h2, h3, h4, h5⟩ := hin k hk.1 hk.2
      rw [h4]
      exact Nat.le_trans h.le h5
  · intro k r D st hk hko
    rcases rangeQ_iff.1 hk with hk1 | hk1
    · rw [if_neg (hold k hk1)] at hko
      obtain ⟨a1, m, a2⟩ := h.al k r D st hk1 hko
      exact ⟨hmono r a1, m, by rw [if_neg (hold r a1)]; exact a2⟩
    · rw [if_pos hk1] at hko
      obtain ⟨t, x, h1, h2, h3, h4, h5⟩ := hin k hk1.1 hk1.2
      rw [h1] at hko
      cases hko
theorem needs_hold {B0 m0 : Nat} {w0 : World} {ex q : Nat → Bool} {obj : Nat → Option Ob} {β : Env} {w : World} {ob : List Ob} (g : Good B0 m0 w0 ex obj β w) (hq : ∀ k, q k = true → ex k = true ∧ obj k = ob[k]?) : ∀ (l : List (Nat × Ob)), Eqs.ok (needEqs q ob l) → holdsAll β w l
  | [], _ => fun p hp => by cases hp
  | (k, x) :: r, h => by
    simp only [needEqs] at h
    split at h
    · rename_i h1 h2
      obtain ⟨h3, h4⟩ := Eqs.cons_ok h
      injection h3 with h3
      subst h3
      intro p hp
      rcases List.mem_cons.1 hp with rfl | hp
      · obtain ⟨h5, h6⟩ := hq k h1
        have h7 := (g.hold k _ h5 (by rw [h6]; exact h2)).1
        rename_i y
        cases y <;> exact h7
      · exact needs_hold g hq r h4 p hp
    · exact (Eqs.no_ok h).elim
def OpOk (P : Program) (m0 : Nat) (st : Bool) (q : Nat → Bool) (sl : List (Nat × SV)) (o : Oper) (ob : List Ob) (x : SV) (q' : Nat → Bool) (ob' : List Ob) (c : Env → Eqs) : Prop :=
  (ob.length ≤ ob'.length ∧ (∀ k, q' k = true ↔ q k = true ∨ (ob.length ≤ k ∧ k < ob'.length)) ∧ (st = false → ∃ l, ob' = ob ++ l) ∧ x.of q' = true) ∧
  ((∀ β, Eqs.ok (c β)) → ∀ (B0 : Nat) (w0 : World) (ex : Nat → Bool) (obj : Nat → Option Ob) (β : Env) (w : World) (a : Act), Good B0 m0 w0 ex obj β w → (∀ k, q k = true → ex k = true ∧ obj k = ob[k]?) → (∀ k, ob.length ≤ k → k < ob'.length → ex k = false) → m0 ≤ ob.length →
    (∀ (k i : Nat) (D : World → Nat → Prop) (st : Stable D) (D' : World → Nat → Prop) (st' : Stable D'), ex k = true → obj k = some (.al i D st) → ob'[ob.length]? = some (.al i D' st') → ob[k]? = some (.al i D st)) →
    (∀ y ∈ o.op.operands, a.eval y = evS β sl y ∧ slotOf q sl y) → noSelectB o.op = true →
    ∀ (K : Act → World → Prop) (Q : Exit → Act → World → Prop), (∀ β' w' obj', (∀ k, ¬(ob.length ≤ k ∧ k < ob'.length) → β' k = β k) → (∀ k, q' k = true → obj' k = ob'[k]?) → (∀ k, q' k = false → obj' k = obj k) → Good B0 m0 w0 (rangeQ ex ob.length ob'.length) obj' β' w' → K (a.put o.dst (x.den β')) w') → o.wp P a w K Q)
theorem genOp_ok {P : Program} {m0 : Nat} {st : Bool} {q : Nat → Bool} {sl : List (Nat × SV)} {o : Oper} {ob : List Ob} {ev : List (Ev P)} {x : SV} {q' : Nat → Bool} {ob' : List Ob} {ev' : List (Ev P)} {c : Env → Eqs} (h : genOp P m0 st q sl o ob ev = .ok x q' ob' ev' c) (hq : ∀ k, q k = true → k < ob.length) : OpOk P m0 st q sl o ob x q' ob' c := by
  unfold genOp at h
  have main : ∀ (r : R1 Next) (f : Env → Next → Eqs), run1 P m0 st (execOp (evS idE sl) o) q ob [] = some r → r.q = q' → r.ob = ob' → x.of q' = true → (∀ β, c β = chk P β (execOp (evS β sl) o) r.tr.reverse (f β)) →
      (∀ β n a w K Q, Eqs.ok (f β n) → K (a.put o.dst (x.den β)) w → o.upon P a K Q (.ok n w)) → OpOk P m0 st q sl o ob x q' ob' c := by
    intro r f hr e1 e2 hx hc hf
    subst e1 e2
    obtain ⟨h1, h2, h3, tr, h4, h5⟩ := run1_ok _ _ _ _ _ hr hq
    refine ⟨⟨h1, h2, h3, hx⟩, fun hok B0 w0 ex obj β w a g hxq hn hm _ hop hns K Q hK => ?_⟩
    obtain ⟨β', hβ⟩ : ∃ β' : Env, β' = fun k => if ob.length ≤ k ∧ k < r.ob.length then w.heap.size + (k - ob.length) else β k := ⟨_, rfl⟩
    have hex : ∀ k, ex k = true → β k = β' k := fun k hk => by
      rw [hβ]
      dsimp only
      rw [if_neg]
      intro hh
      rw [hn k hh.1 hh.2] at hk
      cases hk
    have g' := g.congr hex
    obtain ⟨k1, obj', k2, k3, k4⟩ := h5 B0 w0 ex obj β' w g' hxq (fun k a b => ⟨hn k a b, by rw [hβ]; dsimp only; rw [if_pos ⟨a, b⟩]⟩) hm
    have hcc := hok β'
    rw [hc β', h4, List.append_nil, List.reverse_reverse] at hcc
    obtain ⟨n, hrun, hfn⟩ := chk_run _ _ _ hcc k1
    have hev : execOp a.eval o = execOp (evS β' sl) o := execOp_congr o (noSelect_of hns) fun y hy => by
      obtain ⟨e1, e2⟩ := hop y hy
      rw [e1]
      exact evS_congr (fun k hk => hex k (hxq k hk).1) y e2
    unfold Oper.wp
    rw [hev, hrun]
    exact hf β' n a _ K Q hfn (hK β' _ obj' (fun k hk => by rw [hβ]; dsimp only; rw [if_neg hk]) k2 k3 k4)
  split at h
  · rename_i v q1 ob1 tr hr
    rw [cond_eq_ite] at h
    split at h
    · rename_i hof
      injection h with h1 h2 h3 h4 h5
      subst h1
      refine main _ (fun β n => match n with | .value u => [(.v u, .v ((tag v).den β))] | _ => Eqs.no) hr h2 h3 (by rw [← h2]; exact hof) (fun β => by subst h5; rfl) ?_
      intro β n a w K Q hf hK
      cases n <;> first | exact (Eqs.no_ok hf).elim | skip
      obtain ⟨e, _⟩ := Eqs.cons_ok hf
      injection e with e
      subst e
      exact hK
    · cases h
  · rename_i q1 ob1 tr hr
    injection h with h1 h2 h3 h4 h5
    subst h1
    refine main _ (fun β n => match n with | .skip => [] | _ => Eqs.no) hr h2 h3 rfl (fun β => by subst h5; rfl) ?_
    intro β n a w K Q hf hK
    cases n <;> first | exact (Eqs.no_ok hf).elim | skip
    exact hK
  · cases h
theorem aloneB_spec {i : Nat} : ∀ {ob : List Ob} {n : Nat}, aloneB i ob n = true → ∀ (k : Nat) (D : World → Nat → Prop) (st : Stable D), ob[k]? ≠ some (.al i D st)
  | [], _, _, k, D, st => by simp
  | x :: l, n, h, k, D, st => by
    cases k with
    | zero =>
      intro e
      simp only [List.getElem?_cons_zero] at e
      obtain rfl := Option.some.inj e
      simp [aloneB] at h
    | succ k =>
      rw [List.getElem?_cons_succ]
      refine aloneB_spec (n := n + 1) ?_ k D st
      cases x <;> simp [aloneB] at h <;> first | exact h | exact h.2
theorem execOp_call {ρ : Operand → Value} {o : Oper} {fo : Operand} {xs : Array Operand} {ats : Array TypeId} {g : FuncId} {X Y : Array Value} (ho : o.op = .call ⟨.value fo, xs, ats⟩) (hf : ρ fo = .func (.func g) X Y) : execOp ρ o = callFunc g (X ++ xs.map ρ ++ Y) := by
  unfold execOp
  rw [ho]
  simp only [resolve, hf, Deferred.ofValue, invoke]
  rfl
theorem opS0_ok {P : Program} {m0 : Nat} {st : Bool} {q : Nat → Bool} {sl : List (Nat × SV)} {o : Oper} {ob : List Ob} {ev : List (Ev P)} {x : SV} {q' : Nat → Bool} {ob' : List Ob} {ev' : List (Ev P)} {c : Env → Eqs} (h : opS0 P m0 st q sl o ob ev = .ok x q' ob' ev' c) (hq : ∀ k, q k = true → k < ob.length) : OpOk P m0 st q sl o ob x q' ob' c := by
  unfold opS0 at h
  split at h
  · rename_i fo xs ats hop
    split at h
    · rename_i f en args needs n res news ok ev1
      rw [cond_eq_ite] at h
      split at h
      · rename_i hb
        simp only [Bool.and_eq_true, Bool.or_eq_true, Nat.beq_eq] at hb
        injection h with h1 h2 h3 h4 h5
        subst h1 h2 h3
        have hlen : (ob ++ news.map Thing.ob).length = ob.length + news.length := by simp
        refine ⟨⟨by omega, fun k => by rw [hlen]; exact rangeQ_iff, fun _ => ⟨_, rfl⟩, hb.2⟩, ?_⟩
        intro hok B0 w0 ex obj β w a g hxq hn hm hu hopd hns K Q hK
        rw [hlen] at hn hK
        have hc := hok β
        rw [← h5] at hc
        dsimp only at hc
        split at hc
        · rename_i gg X Y hfo
          obtain ⟨e1, hc1⟩ := Eqs.cons_ok hc
          obtain ⟨e2, hc2⟩ := Eqs.cons_ok hc1
          injection e1 with e1
          injection e2 with e2
          injection e2 with e2
          have hneeds := needs_hold g hxq needs hc2
          subst e1
          have hfo' : a.eval fo = .func (.func gg) X Y := by rw [(hopd fo (by rw [hop]; simp [Op.operands, Call.operands])).1]; exact hfo
          have hargs : xs.map a.eval = xs.map (evS β sl) := Array.map_congr_left fun y hy => (hopd y (by rw [hop]; simp [Op.operands, Call.operands, hy])).1
          unfold Oper.wp
          rw [execOp_call hop hfo', hargs, e2, en]
          refine (ok β w hneeds).mono ?_
          rintro e w' ⟨ys, hfr, hnd, rfl, hh, hbel⟩
          have hys := (newHold_get hh).1
          have hnn : news.length = 0 ∨ n = ob.length := hb.1
          have key := g.news (n := ob.length) hbel hh hfr hnd hn
          have hext : extE β n ys = extE β ob.length ys := by
            rcases hnn with e | e
            · rw [e] at hys
              obtain rfl := List.eq_nil_of_length_eq_zero hys
              rw [extE_nil, extE_nil]
            · rw [e]
          rw [hext]
          refine hK _ w' _ (fun k hk => extE_out (by rw [hys]; exact hk)) ?_ ?_ key
          · intro k hk
            by_cases e : ob.length ≤ k ∧ k < ob.length + news.length
            · rw [if_pos e, List.getElem?_append_right e.1, List.getElem?_map]
            · rw [if_neg e]
              rcases rangeQ_iff.1 hk with hk | hk
              · rw [List.getElem?_append_left (hq k hk)]; exact (hxq k hk).2
              · exact absurd hk e
          · intro k hk
            rw [if_neg]
            intro e
            rw [rangeQ_iff.2 (.inr e)] at hk
            cases hk
        · exact (Eqs.no_ok hc).elim
      · cases h
    · rename_i f en args r ok ev1
      rw [cond_eq_ite] at h
      split at h
      · rename_i hof
        injection h with h1 h2 h3 h4 h5
        subst h1 h2 h3
        refine ⟨⟨Nat.le_refl _, fun k => ⟨.inl, fun hk => hk.elim id (fun hk => by omega)⟩, fun _ => ⟨[], by simp⟩, SV.of_mono (fun _ hk => by cases hk) _ hof⟩, ?_⟩
        intro hok B0 w0 ex obj β w a g hxq hn hm hu hopd hns K Q hK
        have hc := hok β
        rw [← h5] at hc
        dsimp only at hc
        split at hc
        · rename_i gg X Y hfo
          obtain ⟨e1, hc1⟩ := Eqs.cons_ok hc
          obtain ⟨e2, hc2⟩ := Eqs.cons_ok hc1
          obtain ⟨e3, _⟩ := Eqs.cons_ok hc2
          injection e1 with e1
          injection e2 with e2
          injection e2 with e2
          injection e3 with e3
          subst e1
          have hfo' : a.eval fo = .func (.func gg) X Y := by rw [(hopd fo (by rw [hop]; simp [Op.operands, Call.operands])).1]; exact hfo
          have hargs : xs.map a.eval = xs.map (evS β sl) := Array.map_congr_left fun y hy => (hopd y (by rw [hop]; simp [Op.operands, Call.operands, hy])).1
          unfold Oper.wp
          rw [execOp_call hop hfo', hargs, e2, en]
          refine (ok w).mono ?_
          rintro e w' ⟨rfl, hbel⟩
          have := hK β w' obj (fun _ _ => rfl) (fun k hk => (hxq k hk).2) (fun _ _ => rfl) (by rw [rangeQ_self]; exact g.on hbel)
          rw [e3] at this
          exact this
        · exact (Eqs.no_ok hc).elim
      · cases h
    · rename_i f en args needs i N n D st' ok ev1
      split at h
      · rename_i N' hob
        rw [cond_eq_ite] at h
        split at h
        · rename_i hb
          simp only [Bool.and_eq_true, Nat.beq_eq, Nat.ble_eq] at hb
          obtain ⟨⟨⟨⟨rfl, rfl⟩, hqi⟩, hmi⟩, hal⟩ := hb
          injection h with h1 h2 h3 h4 h5
          subst h1 h2 h3
          have hlen : (ob ++ [Ob.al i D st']).length = ob.length + 1 := by simp
          refine ⟨⟨by omega, fun k => by rw [hlen, addQ_iff]; constructor <;> rintro (a | a) <;> first | exact .inl a | exact .inr (by omega), fun _ => ⟨_, rfl⟩, by simp [SV.of, SC.of, Lf.of, Lf0.of, addQ]⟩, ?_⟩
          intro hok B0 w0 ex obj β w a g hxq hn hm hu hopd hns K Q hK
          rw [hlen] at hn hK
          have hc := hok β
          rw [← h5] at hc
          dsimp only at hc
          split at hc
          · rename_i gg X Y hfo
            obtain ⟨e1, hc1⟩ := Eqs.cons_ok hc
            obtain ⟨e2, hc2⟩ := Eqs.cons_ok hc1
            injection e1 with e1
            injection e2 with e2
            injection e2 with e2
            have hneeds := needs_hold g hxq needs hc2
            subst e1
            obtain ⟨hexi, hobi⟩ := hxq i hqi
            rw [hob] at hobi
            have hil := hq i hqi
            have hnn := hn ob.length (Nat.le_refl _) (by omega)
            have hfo' : a.eval fo = .func (.func gg) X Y := by rw [(hopd fo (by rw [hop]; simp [Op.operands, Call.operands])).1]; exact hfo
            have hargs : xs.map a.eval = xs.map (evS β sl) := Array.map_congr_left fun y hy => (hopd y (by rw [hop]; simp [Op.operands, Call.operands, hy])).1
            unfold Oper.wp
            rw [execOp_call hop hfo', hargs, e2, en]
            refine (ok β w hneeds (g.hold i _ hexi hobi).1).mono ?_
            rintro e w' ⟨rfl, hD, hT⟩
            obtain ⟨β', hβ⟩ : ∃ β' : Env, β' = fun k => if k = ob.length then β i else β k := ⟨_, rfl⟩
            have hβn : β' ob.length = β i := by rw [hβ]; exact if_pos rfl
            have hβo : ∀ k, k ≠ ob.length → β' k = β k := fun k hk => by rw [hβ]; exact if_neg hk
            have hβi := hβo i (by omega)
            have g' := g.congr (β' := β') fun k hk => (hβo k (fun e => by rw [e, hnn] at hk; cases hk)).symm
            have key := g'.fill (n := ob.length) hexi hobi hmi hnn (by rw [hβn, hβi]) (fun k hk hki hr => ?_) (by rw [hβi]; exact hT) st' (by rw [hβi]; exact hD)
            · refine Eq.mp ?_ (hK β' w' _ (fun k hk => hβo k (by omega)) ?_ ?_ (key.view (fun k => ?_) (fun _ _ => rfl)))
              · show K (a.put o.dst (.pointer (some ⟨β' ob.length, 0, none⟩))) w' = _
                rw [hβn]
              · intro k hk
                rcases addQ_iff.1 hk with hk | rfl
                · have := hq k hk
                  rw [updO_ne (by omega), List.getElem?_append_left this]; exact (hxq k hk).2
                · rw [updO_eq]; simp
              · intro k hk
                exact updO_ne fun e => by rw [addQ_iff.2 (.inr e)] at hk; cases hk
              · rw [Bool.eq_iff_iff, rangeQ_iff, addQ_iff]
                constructor <;> rintro (a | a) <;> first | exact .inl a | exact .inr (by omega)
            · unfold rtO at hr
              split at hr
              · rename_i r D2 st2 hx2
                subst hr
                exact aloneB_spec hal k D2 st2 (hu k r D2 st2 D st' hk hx2 (by simp))
              · exact hki hr
          · exact (Eqs.no_ok hc).elim
        · cases h
      · cases h
    · cases h
  · split at h
    · rename_i d op' xs r okr ev1
      split at h
      · rename_i t ht
        rw [cond_eq_ite] at h
        split at h
        · rw [cond_eq_ite] at h
          split at h
          · rename_i hof
            injection h with h1 h2 h3 h4 h5
            subst h1 h2 h3
            refine ⟨⟨Nat.le_refl _, fun k => ⟨.inl, fun hk => hk.elim id (fun hk => by omega)⟩, fun _ => ⟨[], by simp⟩, SV.of_mono (fun _ hk => by cases hk) _ hof⟩, ?_⟩
            intro hok B0 w0 ex obj β w a g hxq hn hm hu hopd hns K Q hK
            have hc := hok β
            rw [← h5] at hc
            obtain ⟨e1, hc⟩ := Eqs.cons_ok hc
            obtain ⟨e2, hc⟩ := Eqs.cons_ok hc
            obtain ⟨e3, hc⟩ := Eqs.cons_ok hc
            injection e1 with e1
            injection e2 with e2
            injection e2 with e2
            injection e3 with e3
            unfold Oper.wp
            rw [okr a.eval o w e1 (by
              have : o.op.operands.map a.eval = o.op.operands.map (evS β sl) := Array.map_congr_left fun y hy => (hopd y hy).1
              rw [← e1, ← Array.toList_map, this, e2])]
            have := hK β w obj (fun _ _ => rfl) (fun k hk => (hxq k hk).2) (fun _ _ => rfl) (by rw [rangeQ_self]; exact g)
            rw [← e3] at this
            exact this
          · cases h
        · exact genOp_ok h hq
      · exact genOp_ok h hq
    · rename_i d op' xs needs r okr ev1
      split at h
      · rename_i t ht
        rw [cond_eq_ite] at h
        split at h
        · rw [cond_eq_ite] at h
          split at h
          · rename_i hof
            injection h with h1 h2 h3 h4 h5
            subst h1 h2 h3
            refine ⟨⟨Nat.le_refl _, fun k => ⟨.inl, fun hk => hk.elim id (fun hk => by omega)⟩, fun _ => ⟨[], by simp⟩, SV.of_mono (fun _ hk => by cases hk) _ hof⟩, ?_⟩
            intro hok B0 w0 ex obj β w a g hxq hn hm hu hopd hns K Q hK
            have hc := hok β
            rw [← h5] at hc
            obtain ⟨e1, hc⟩ := Eqs.cons_ok hc
            obtain ⟨e2, hc⟩ := Eqs.cons_ok hc
            obtain ⟨e3, hc⟩ := Eqs.cons_ok hc
            injection e1 with e1
            injection e2 with e2
            injection e2 with e2
            injection e3 with e3
            unfold Oper.wp
            have hneeds := needs_hold g hxq needs hc
            rw [okr β w hneeds a.eval o e1 (by
              have : o.op.operands.map a.eval = o.op.operands.map (evS β sl) := Array.map_congr_left fun y hy => (hopd y hy).1
              rw [← e1, ← Array.toList_map, this, e2])]
            have := hK β w obj (fun _ _ => rfl) (fun k hk => (hxq k hk).2) (fun _ _ => rfl) (by rw [rangeQ_self]; exact g)
            rw [← e3] at this
            exact this
          · cases h
        · exact genOp_ok h hq
      · exact genOp_ok h hq
    · rename_i d x1 r hxr ev1
      split at h
      · rename_i t ht
        rw [cond_eq_ite] at h
        split at h
        · split at h
          · rename_i v q1 ob1 _ c1 hg
            rw [cond_eq_ite] at h
            split at h
            · rename_i hof
              injection h with h1 h2 h3 h4 h5
              subst h1 h2 h3
              obtain ⟨⟨g1, g2, g3, g4⟩, g5⟩ := genOp_ok hg hq
              refine ⟨⟨g1, g2, g3, SV.of_mono (fun _ hk => by cases hk) _ hof⟩, ?_⟩
              intro hok B0 w0 ex obj β w a g hxq hn hm hu hopd hns K Q hK
              have hall : ∀ β, v.den β = (tag r).den β ∧ Eqs.ok (c1 β) := fun β => by
                have hc := hok β
                rw [← h5] at hc
                obtain ⟨e1, k1⟩ := Eqs.cons_ok hc
                obtain ⟨e2, k2⟩ := Eqs.cons_ok k1
                injection e1 with e1
                injection e2 with e2
                exact ⟨by rw [e1, e2, hxr], k2⟩
              refine g5 (fun β => (hall β).2) B0 w0 ex obj β w a g hxq hn hm hu hopd hns K Q fun β' w' obj' a1 a2 a3 a4 => ?_
              rw [(hall β').1]
              exact hK β' w' obj' a1 a2 a3 a4
            · cases h
          · cases h
        · exact genOp_ok h hq
      · exact genOp_ok h hq
    · rename_i d N ev1
      split at h
      · rename_i t ht
        rw [cond_eq_ite] at h
        split at h
        · split at h
          · rename_i v q1 ob1 _ c1 hg
            split at h
            · rename_i cs tt hbx
              rw [cond_eq_ite] at h
              split at h
              · rename_i hb
                simp only [Bool.and_eq_true, Nat.beq_eq, Nat.ble_eq, Bool.not_eq_true'] at hb
                obtain ⟨⟨hl1, hN⟩, htt⟩ := hb
                have htt : tt ≠ 271 := fun e => by rw [e] at htt; exact absurd htt (by decide)
                injection h with h1 h2 h3 h4 h5
                subst h1 h2 h3 h5
                obtain ⟨⟨g1, g2, g3, g4⟩, g5⟩ := genOp_ok hg hq
                obtain ⟨l, hl⟩ := g3 rfl
                have hlen : (ob ++ [Ob.pl N]).length = ob1.length := by rw [hl1]; simp
                refine ⟨⟨by rw [hlen]; exact g1, fun k => by rw [hlen]; exact g2 k, fun _ => ⟨_, rfl⟩, g4⟩, ?_⟩
                intro hok B0 w0 ex obj β w a g hxq hn hm hu hopd hns K Q hK
                rw [hlen] at hn hK
                refine g5 hok B0 w0 ex obj β w a g hxq hn hm (fun k i D st D' st' _ _ hx => by rw [hbx] at hx; cases hx) hopd hns K Q fun β' w' obj' a1 a2 a3 a4 => ?_
                have hqn : q1 ob.length = true := (g2 _).2 (.inr ⟨Nat.le_refl _, by omega⟩)
                refine hK β' w' (updO obj' ob.length (.pl N)) a1 (fun k hk => ?_) (fun k hk => ?_) (a4.weak (by rw [a2 _ hqn]; exact hbx) htt hN)
                · by_cases e : k = ob.length
                  · rw [e, updO_eq]; simp
                  · have hk2 : k < ob.length := by rcases (g2 k).1 hk with x | x; exact hq k x; omega
                    rw [updO_ne e, a2 k hk, hl, List.getElem?_append_left hk2, List.getElem?_append_left hk2]
                · rw [updO_ne (fun e => by rw [e, hqn] at hk; cases hk)]
                  exact a3 k hk
              · cases h
            · cases h
          · cases h
        · exact genOp_ok h hq
      · exact genOp_ok h hq
    · exact genOp_ok h hq
def UniqAl (ob : List Ob) : Prop := ∀ (k j i : Nat) (D : World → Nat → Prop) (st : Stable D) (D' : World → Nat → Prop) (st' : Stable D'), ob[k]? = some (.al i D st) → ob[j]? = some (.al i D' st') → k = j
theorem UniqAl.append {ob l : List Ob} (h : UniqAl ob) (hl : ∀ x ∈ l, x.own = true) : UniqAl (ob ++ l) := by
  have key : ∀ (k i : Nat) (D : World → Nat → Prop) (st : Stable D), (ob ++ l)[k]? = some (.al i D st) → ob[k]? = some (.al i D st) := by
    intro k i D st hk
    rw [List.getElem?_append] at hk
    split at hk
    · exact hk
    · have := hl _ (List.mem_of_getElem? hk)
      cases this
  exact fun k j i D st D' st' h1 h2 => h k j i D st D' st' (key _ _ _ _ h1) (key _ _ _ _ h2)
theorem UniqAl.set {ob : List Ob} (h : UniqAl ob) (i : Nat) {x : Ob} (hx : x.own = true) : UniqAl (ob.set i x) := by
  have key : ∀ (k j : Nat) (D : World → Nat → Prop) (st : Stable D), (ob.set i x)[k]? = some (.al j D st) → ob[k]? = some (.al j D st) := by
    intro k j D st hk
    rw [List.getElem?_set] at hk
    split at hk
    · split at hk
      · obtain rfl := Option.some.inj hk
        cases hx
      · cases hk
    · exact hk
  exact fun k j i D st D' st' h1 h2 => h k j i D st D' st' (key _ _ _ _ h1) (key _ _ _ _ h2)
theorem run1_uq {α : Type} {P : Program} {m0 : Nat} {st : Bool} : ∀ (s : Sem α) (q : Nat → Bool) (ob : List Ob) (tr0 : List Tr) (r : R1 α), run1 P m0 st s q ob tr0 = some r → UniqAl ob → UniqAl r.ob := by
  intro s
  induction s with
  | pure a => intro q ob tr0 r h hu; simp only [run1] at h; obtain rfl := Option.some.inj h; exact hu
  | load m a k ih =>
    intro q ob tr0 r h hu
    obtain ⟨b, o, sp⟩ := a
    cases sp with
    | some n => simp only [run1] at h; cases h
    | none =>
      simp only [run1] at h
      split at h
      · split at h
        · rw [lit_eq] at h
          split at h
          · exact ih _ _ _ _ _ h hu
          · cases h
        · cases h
      · cases h
  | store m a v k ih =>
    intro q ob tr0 r h hu
    obtain ⟨b, o, sp⟩ := a
    cases sp with
    | some n => simp only [run1] at h; cases h
    | none =>
      simp only [run1] at h
      split at h
      · split at h
        · rw [lit_eq, cond_eq_ite] at h
          split at h
          · exact ih _ _ _ _ h (hu.set _ rfl)
          · cases h
        · cases h
      · cases h
  | new x k ih =>
    intro q ob tr0 r h hu
    cases x <;> simp only [run1] at h <;> first | (cases h; done) | skip
    rw [cond_eq_ite] at h
    split at h
    · rw [lit_eq] at h
      exact ih _ _ _ _ _ h (hu.append fun x hx => by rw [List.mem_singleton.1 hx]; rfl)
    · cases h
  | shape b k ih =>
    intro q ob tr0 r h hu
    simp only [run1] at h
    split at h
    · split at h
      · exact ih _ _ _ _ _ h hu
      · cases h
    · cases h
  | freeze a n k ih => intro q ob tr0 r h _; simp only [run1] at h; cases h
  | frozen a k ih =>
    intro q ob tr0 r h hu
    obtain ⟨b, o, sp⟩ := a
    cases sp with
    | some n => simp only [run1] at h; cases h
    | none =>
      simp only [run1] at h
      split at h
      · split at h
        · exact ih _ _ _ _ _ h hu
        · cases h
      · cases h
  | getObj r k ih => intro q ob tr0 r h _; simp only [run1] at h; cases h
  | setObj r o k ih => intro q ob tr0 r h _; simp only [run1] at h; cases h
  | choose c k ih => intro q ob tr0 r h _; simp only [run1] at h; cases h
  | sys c k ih => intro q ob tr0 r h _; simp only [run1] at h; cases h
  | program k ih => intro q ob tr0 r h hu; simp only [run1] at h; exact ih _ _ _ _ _ h hu
  | mark m k ih => intro q ob tr0 r h hu; simp only [run1] at h; exact ih _ _ _ _ h hu
  | halt x => intro q ob tr0 r h _; simp only [run1] at h; cases h
theorem genOp_uq {P : Program} {m0 : Nat} {st : Bool} {q : Nat → Bool} {sl : List (Nat × SV)} {o : Oper} {ob : List Ob} {ev : List (Ev P)} {x : SV} {q' : Nat → Bool} {ob' : List Ob} {ev' : List (Ev P)} {c : Env → Eqs} (h : genOp P m0 st q sl o ob ev = .ok x q' ob' ev' c) (hu : UniqAl ob) : UniqAl ob' := by
  unfold genOp at h
  split at h
  · rename_i v q1 ob1 tr hr
    rw [cond_eq_ite] at h
    split at h
    · injection h with h1 h2 h3 h4 h5
      subst h3
      exact run1_uq _ _ _ _ _ hr hu
    · cases h
  · rename_i q1 ob1 tr hr
    injection h with h1 h2 h3 h4 h5
    subst h3
    exact run1_uq _ _ _ _ _ hr hu
  · cases h
theorem opS0_uq {P : Program} {m0 : Nat} {st : Bool} {q : Nat → Bool} {sl : List (Nat × SV)} {o : Oper} {ob : List Ob} {ev : List (Ev P)} {x : SV} {q' : Nat → Bool} {ob' : List Ob} {ev' : List (Ev P)} {c : Env → Eqs} (h : opS0 P m0 st q sl o ob ev = .ok x q' ob' ev' c) (hu : UniqAl ob) : UniqAl ob' := by
  unfold opS0 at h
  split at h
  · split at h
    · rw [cond_eq_ite] at h
      split at h
      · injection h with h1 h2 h3 h4 h5
        subst h3
        exact hu.append fun x hx => by obtain ⟨t, _, rfl⟩ := List.mem_map.1 hx; rfl
      · cases h
    · rw [cond_eq_ite] at h
      split at h
      · injection h with h1 h2 h3 h4 h5
        subst h3
        exact hu
      · cases h
    · split at h
      · rw [cond_eq_ite] at h
        split at h
        · rename_i hb
          simp only [Bool.and_eq_true] at hb
          injection h with h1 h2 h3 h4 h5
          subst h3
          have hal := aloneB_spec hb.2
          intro k j i D st D' st' h6 h7
          rw [List.getElem?_append] at h6 h7
          split at h6
          · split at h7
            · exact hu k j i D st D' st' h6 h7
            · rename_i hj
              rw [List.getElem?_singleton] at h7
              split at h7
              · obtain ⟨e, _⟩ := Ob.al.inj (Option.some.inj h7)
                subst e
                exact absurd h6 (hal k D st)
              · cases h7
          · rw [List.getElem?_singleton] at h6
            split at h6
            · obtain ⟨e, _⟩ := Ob.al.inj (Option.some.inj h6)
              subst e
              split at h7
              · exact absurd h7 (hal j D' st')
              · rw [List.getElem?_singleton] at h7
                split at h7
                · omega
                · cases h7
            · cases h6
        · cases h
      · cases h
    · cases h
  · split at h
    · split at h
      · rw [cond_eq_ite] at h
        split at h
        · rw [cond_eq_ite] at h
          split at h
          · injection h with h1 h2 h3 h4 h5
            subst h3
            exact hu
          · cases h
        · exact genOp_uq h hu
      · exact genOp_uq h hu
    · split at h
      · rw [cond_eq_ite] at h
        split at h
        · rw [cond_eq_ite] at h
          split at h
          · injection h with h1 h2 h3 h4 h5
            subst h3
            exact hu
          · cases h
        · exact genOp_uq h hu
      · exact genOp_uq h hu
    · split at h
      · rw [cond_eq_ite] at h
        split at h
        · split at h
          · rename_i hg
            rw [cond_eq_ite] at h
            split at h
            · injection h with h1 h2 h3 h4 h5
              subst h3
              exact genOp_uq hg hu
            · cases h
          · cases h
        · exact genOp_uq h hu
      · exact genOp_uq h hu
    · split at h
      · rw [cond_eq_ite] at h
        split at h
        · split at h
          · split at h
            · rw [cond_eq_ite] at h
              split at h
              · injection h with h1 h2 h3 h4 h5
                subst h3
                exact hu.append fun x hx => by rw [List.mem_singleton.1 hx]; rfl
              · cases h
            · cases h
          · cases h
        · exact genOp_uq h hu
      · exact genOp_uq h hu
    · exact genOp_uq h hu
theorem opS_ok {P : Program} {m0 : Nat} {st : Bool} {q : Nat → Bool} {sl : List (Nat × SV)} {o : Oper} {ob : List Ob} {ev : List (Ev P)} {x : SV} {q' : Nat → Bool} {ob' : List Ob} {ev' : List (Ev P)} {c : Env → Eqs} (h : opS P m0 st q sl o ob ev = .ok x q' ob' ev' c) (hq : ∀ k, q k = true → k < ob.length) : OpOk P m0 st q sl o ob x q' ob' c := opS0_ok h hq
theorem opS_uq {P : Program} {m0 : Nat} {st : Bool} {q : Nat → Bool} {sl : List (Nat × SV)} {o : Oper} {ob : List Ob} {ev : List (Ev P)} {x : SV} {q' : Nat → Bool} {ob' : List Ob} {ev' : List (Ev P)} {c : Env → Eqs} (h : opS P m0 st q sl o ob ev = .ok x q' ob' ev' c) (hu : UniqAl ob) : UniqAl ob' := opS0_uq h hu
end
end Go.Proofs.YtiolbdleihiocaaGreat
end
