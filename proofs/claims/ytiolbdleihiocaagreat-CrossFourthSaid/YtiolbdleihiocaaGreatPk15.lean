/- Rs7, Rs10, CrB, CrC, CrD, L10, Fou, Open, OpnB. -/
import Derived.ProofKit
import Derived.OpenShut
import Derived.ShutString
import Derived.ChangeOld
import Derived.Below
import Derived.Test.YtiolbdleihiocaaGreatPk14
namespace Go.Proofs.YtiolbdleihiocaaGreat
set_option linter.unnecessarySimpa false
set_option linter.unusedVariables false
set_option linter.unusedSimpArgs false
/- The references of layers 7 and 8, by what they do. -/
section
open Go Go.RowKit
set_option maxRecDepth 100000

/-- A function that reads one block (a slice's), and answers a value without a place. -/
structure BSpec (P : Program) where
  f : FuncId
  en : Enters P f
  args : List SV
  cs : List Lf
  t : TypeId
  r : Value
  ok : ∀ β w, (Ob.box cs t).holds β w (β 0) → Calls P f (args.map (SV.den β)).toArray w fun e w' => e = .returned r ∧ Below w.heap.size w w'
  cl : (cs.all (Lf.of fun _ => false) && args.all (SV.of fun k => Nat.beq k 0)) = true
  hr : ∀ β, (tag r).den β = r
def bkOf : List SV → Nat
  | [] => 0
  | .one (.c (.b (.s k _ _ _))) :: _ => k
  | _ :: r => bkOf r
theorem cells_closed {β β' : Env} {cs : List Lf} (h : cs.all (Lf.of fun _ => false) = true) : cs.map (Lf.den β) = cs.map (Lf.den β') :=
  List.map_congr_left fun x hx => Lf.den_congr (q := fun _ => false) (fun k hk => by cases hk) x (List.all_eq_true.1 h x hx)
def BSpec.e {P : Program} (S : BSpec P) : Ev P := .dyn (fun o _ _ => isCallB o) fun _ xs ob => lit (bkOf xs) fun i =>
  .call S.f S.en (fun β => (S.args.map (SV.den fun _ => β i)).toArray) [(i, .box S.cs S.t)] 0 (tag S.r) [] (fun β w h => of_pure0 (by
    have hc := S.cl
    rw [Bool.and_eq_true] at hc
    refine S.ok (fun _ => β i) w ?_
    have h1 : w.heap[β i]? = some (.cells (S.cs.map (Lf.den β)).toArray S.t (0, 0)) := h _ (List.mem_singleton.2 rfl)
    show w.heap[β i]? = some (.cells (S.cs.map (Lf.den fun _ => β i)).toArray S.t (0, 0))
    rw [cells_closed (β' := β) hc.1]
    exact h1) S.hr)
/-- A way through such a function gone through. -/
theorem bspec_ok {P : Program} {f : FuncId} {fn : Func} {args : List SV} {cs : List Lf} {t : TypeId} {r : Value} (evs : List (Ev P)) (Ns : List (Nat × Nat)) (m : Nat) (hf : P.funcs[f]? = some fn) (hm : P.follows .mixedOrders = true)
    (h : ∀ β, (allS P fn args [.box cs t] evs Ns m (tag r) [] β).map Prod.fst = (allS P fn args [.box cs t] evs Ns m (tag r) [] β).map Prod.snd)
    (hB : (args.all (SV.of fun k => Nat.blt k 1) && [Ob.box cs t].all fun x => x.of (fun k => Nat.blt k 1) && x.own) = true) (hr : ∀ β, (tag r).den β = r) (β : Env) (w : World) (hh : (Ob.box cs t).holds β w (β 0)) :
    Calls P f (args.map (SV.den β)).toArray w fun e w' => e = .returned r ∧ Below w.heap.size w w' := by
  rw [Bool.and_eq_true] at hB
  refine (sx (P := P) args [.box cs t] evs Ns m (tag r) [] hf hm (fun β => ok_of_maps (h β)) hB.1 hB.2 β w (fun k hk => ?_) (fun k o ho => ?_)).mono ?_
  · obtain rfl : k = 0 := by simp only [List.length_singleton] at hk; omega
    exact heap_lt hh
  · cases k with
    | zero => simp only [List.getElem?_cons_zero] at ho; obtain rfl := Option.some.inj ho; exact hh
    | succ k => simp at ho
  · rintro e w' ⟨β', q, obj, e1, rfl, e2, e3, e4, e5, g⟩
    exact ⟨by rw [hr], g.bel⟩

-- layer 4: few bytes
def big (k : Nat) (s : ByteArray) : Bool := decide ((k : Int) < (s.size : Int))
def smB (k : Nat) (x y : R4) : Bool := !(big k x.s || (big k x.t || (big k y.s || big k y.t)))
theorem big_lit {k : Nat} {s : ByteArray} {r : Bool} (h : big k s = r) : Value.bool (decide ((k : Int) < (s.size : Int))) = .bool r := by rw [← h]; rfl
def evBig (k : Nat) (s : ByteArray) (d : Nat) (r : Bool) (h : big k s = r) : Ev Tryz.prog := .eqv d (.bool (decide ((k : Int) < (s.size : Int)))) (.bool r) (big_lit h)
theorem small4_ok (k : Nat) (x y : R4) {b : Bool} (hb : smB k x y = b) (β : Env) (w : World) (hh : (Ob.box (x.L ++ y.L) 27).holds β w (β 0)) :
    Calls Tryz.prog 62 (([.one (.c (.b (.v (.int .i64 (k : Int))))), .one (.c (.b (.s 0 0 1 1)))] : List SV).map (SV.den β)).toArray w fun e w' => e = .returned (.bool b) ∧ Below w.heap.size w w' := by
  unfold smB at hb
  cases h1 : big k x.s with
  | true =>
    obtain rfl : b = false := by rw [← hb, h1]; rfl
    exact bspec_ok [evBig k x.s 23 true h1] [] 800 Tryz.func62 hmA (fun β => by kernel_rfl) (by kernel_rfl) (fun β => rfl) β w hh
  | false => cases h2 : big k x.t with
  | true =>
    obtain rfl : b = false := by rw [← hb, h1, h2]; rfl
    exact bspec_ok [evBig k x.s 23 false h1, evBig k x.t 31 true h2] [] 800 Tryz.func62 hmA (fun β => by kernel_rfl) (by kernel_rfl) (fun β => rfl) β w hh
  | false => cases h3 : big k y.s with
  | true =>
    obtain rfl : b = false := by rw [← hb, h1, h2, h3]; rfl
    exact bspec_ok [evBig k x.s 23 false h1, evBig k x.t 31 false h2, evBig k y.s 40 true h3] [] 800 Tryz.func62 hmA (fun β => by kernel_rfl) (by kernel_rfl) (fun β => rfl) β w hh
  | false => cases h4 : big k y.t with
  | true =>
    obtain rfl : b = false := by rw [← hb, h1, h2, h3, h4]; rfl
    exact bspec_ok [evBig k x.s 23 false h1, evBig k x.t 31 false h2, evBig k y.s 40 false h3, evBig k y.t 49 true h4] [] 800 Tryz.func62 hmA (fun β => by kernel_rfl) (by kernel_rfl) (fun β => rfl) β w hh
  | false =>
    obtain rfl : b = true := by rw [← hb, h1, h2, h3, h4]; rfl
    exact bspec_ok [evBig k x.s 23 false h1, evBig k x.t 31 false h2, evBig k y.s 40 false h3, evBig k y.t 49 false h4] [] 800 Tryz.func62 hmA (fun β => by kernel_rfl) (by kernel_rfl) (fun β => rfl) β w hh
def sR4Small (k : Nat) (x y : R4) {b : Bool} (hb : smB k x y = b) : BSpec Tryz.prog :=
  ⟨62, Tryz.call62, [.one (.c (.b (.v (.int .i64 (k : Int))))), .one (.c (.b (.s 0 0 1 1)))], x.L ++ y.L, 27, .bool b, small4_ok k x y hb, by kernel_rfl, fun _ => rfl⟩
-- layer 7
def Rw.C (r : Rw) : List Lf := rawC r.i r.x r.y
def Rw.sm (k : Nat) (r : Rw) : Bool := smB k r.x r.y
theorem small7_ok (k : Nat) (p q r s : Rw) {b : Bool} (hb : (p.sm k && (q.sm k && (r.sm k && s.sm k))) = b) (β : Env) (w : World) (hh : (Ob.box (p.C ++ q.C ++ r.C ++ s.C) 29).holds β w (β 0)) :
    Calls Tryz.prog 20 (([.one (.c (.b (.v (.int .i64 (k : Int))))), .one (.c (.b (.s 0 0 4 4)))] : List SV).map (SV.den β)).toArray w fun e w' => e = .returned (.bool b) ∧ Below w.heap.size w w' := by
  cases h1 : p.sm k with
  | false =>
    obtain rfl : b = false := by rw [← hb, h1]; rfl
    exact bspec_ok [(sR4Small k p.x p.y h1).e] [] 800 Tryz.func20 hmA (fun β => by kernel_rfl) (by kernel_rfl) (fun β => rfl) β w hh
  | true => cases h2 : q.sm k with
  | false =>
    obtain rfl : b = false := by rw [← hb, h1, h2]; rfl
    exact bspec_ok [(sR4Small k p.x p.y h1).e, (sR4Small k q.x q.y h2).e] [] 800 Tryz.func20 hmA (fun β => by kernel_rfl) (by kernel_rfl) (fun β => rfl) β w hh
  | true => cases h3 : r.sm k with
  | false =>
    obtain rfl : b = false := by rw [← hb, h1, h2, h3]; rfl
    exact bspec_ok [(sR4Small k p.x p.y h1).e, (sR4Small k q.x q.y h2).e, (sR4Small k r.x r.y h3).e] [] 800 Tryz.func20 hmA (fun β => by kernel_rfl) (by kernel_rfl) (fun β => rfl) β w hh
  | true =>
    obtain rfl : b = s.sm k := by rw [← hb, h1, h2, h3]; rfl
    cases h4 : s.sm k <;> exact bspec_ok [(sR4Small k p.x p.y h1).e, (sR4Small k q.x q.y h2).e, (sR4Small k r.x r.y h3).e, (sR4Small k s.x s.y h4).e] [] 800 Tryz.func20 hmA (fun β => by kernel_rfl) (by kernel_rfl) (fun β => rfl) β w hh
def sR7Small (k : Nat) (p q r s : Rw) {b : Bool} (hb : (p.sm k && (q.sm k && (r.sm k && s.sm k))) = b) : BSpec Tryz.prog :=
  ⟨20, Tryz.call20, [.one (.c (.b (.v (.int .i64 (k : Int))))), .one (.c (.b (.s 0 0 4 4)))], p.C ++ q.C ++ r.C ++ s.C, 29, .bool b, small7_ok k p q r s hb, by kernel_rfl, fun _ => rfl⟩
def Pp.may7E : Pp → List (Ev Tryz.prog)
  | .inf => []
  | .fin a b => [(sR4May a b).e]
  | .odd x y h => [eqEvP true true x y r40 r40 false (odd_ne h)]
def sR7May0 (p : Pp) : Spec Tryz.prog :=
  Spec.auto Tryz.call16 [.one (.a p.C)] [] (.one (.c (.b (.v (.bool p.B))))) []
    p.may7E [] 400 Tryz.func16 hmA (by rcases p with _ | ⟨_ | _, _ | _⟩ | _ <;> kernel_rfl) (fun β => by rcases p with _ | ⟨_ | _, _ | _⟩ | _ <;> kernel_rfl)
def sR7May (p : Pp) {b : Bool} (hb : p.B = b) : Spec Tryz.prog :=
  (sR7May0 p).as [svR p.rI p.rX p.rY] (.one (.c (.b (.v (.bool b))))) (congrArg (fun l => [SV.one (.a l)]) (Pp.C_raw p)) (congrArg (fun b => SV.one (.c (.b (.v (.bool b))))) hb)
theorem all3_ok (p q r : Pp) {b : Bool} (hb : (p.B && (q.B && r.B)) = b) (β : Env) (w : World) (hh : (Ob.box (p.w.C ++ q.w.C ++ r.w.C) 29).holds β w (β 0)) :
    Calls Tryz.prog 24 (([.one (.c (.b (.s 0 0 3 3)))] : List SV).map (SV.den β)).toArray w fun e w' => e = .returned (.bool b) ∧ Below w.heap.size w w' := by
  cases h1 : p.B with
  | false =>
    obtain rfl : b = false := by rw [← hb, h1]; rfl
    exact bspec_ok [(sR7May p h1).e] [] 800 Tryz.func24 hmA (fun β => by kernel_rfl) (by kernel_rfl) (fun β => rfl) β w hh
  | true => cases h2 : q.B with
  | false =>
    obtain rfl : b = false := by rw [← hb, h1, h2]; rfl
    exact bspec_ok [(sR7May p h1).e, (sR7May q h2).e] [] 800 Tryz.func24 hmA (fun β => by kernel_rfl) (by kernel_rfl) (fun β => rfl) β w hh
  | true =>
    obtain rfl : b = r.B := by rw [← hb, h1, h2]; rfl
    cases h3 : r.B <;> exact bspec_ok [(sR7May p h1).e, (sR7May q h2).e, (sR7May r h3).e] [] 800 Tryz.func24 hmA (fun β => by kernel_rfl) (by kernel_rfl) (fun β => rfl) β w hh
def sR7All (p q r : Pp) {b : Bool} (hb : (p.B && (q.B && r.B)) = b) : BSpec Tryz.prog :=
  ⟨24, Tryz.call24, [.one (.c (.b (.s 0 0 3 3)))], p.w.C ++ q.w.C ++ r.w.C, 29, .bool b, all3_ok p q r hb, by kernel_rfl, fun _ => rfl⟩
def fits7E (p : Pt) {b : Bool} (hb : b = true ↔ FitP p) : List (Ev Tryz.prog) := match p, hb with
  | .inf, _ => []
  | .fin z, h => [(sR4Fits z h).e]
theorem fitP_dec (p : Pt) : ∃ b : Bool, b = true ↔ FitP p := by
  by_cases h : FitP p
  · exact ⟨true, iff_true_of h⟩
  · exact ⟨false, iff_false_of h⟩
def sR7Fits (p : Pt) {b : Bool} (hb : b = true ↔ FitP p) : Spec Tryz.prog :=
  ⟨223, Tryz.call223, [svP p], [], .one (.c (.b (.v (.bool b)))), [], fun β w hh => by
    cases p
    · obtain rfl : b = true := hb.2 trivial
      exact spec_auto (evs := []) (Ns := []) (m := 400) Tryz.func223 hmA (fun β => by kernel_rfl) (by kernel_rfl) β w hh
    · cases b <;> exact spec_auto (evs := [(sR4Fits _ hb).e]) (Ns := []) (m := 400) Tryz.func223 hmA (fun β => by kernel_rfl) (by kernel_rfl) β w hh, by kernel_rfl⟩
noncomputable def sR7Told (p : Pt) : Spec Tryz.prog :=
  ⟨148, Tryz.call148, [svP p], [], svA p (paK p), [], fun β w hh => by
    by_cases h : FitP p
    · unfold svA
      rw [(pa_fit h).1, (pa_fit h).2.1, (pa_fit h).2.2, paK_fit h]
      exact spec_auto (evs := [(sR7Fits p (iff_true_of h)).e]) (Ns := []) (m := 400) Tryz.func148 hmA (fun β => by kernel_rfl) (by kernel_rfl) β w hh
    · unfold svA
      rw [(pa_not h).1, (pa_not h).2.1, (pa_not h).2.2, paK_not h]
      exact spec_auto (evs := [(sR7Fits p (iff_false_of h)).e]) (Ns := []) (m := 400) Tryz.func148 hmA (fun β => by kernel_rfl) (by kernel_rfl) β w hh, by kernel_rfl⟩
def by7E : Pt → List (Ev Tryz.prog)
  | .inf => [(sR4Int 1 0).e, (sR4Int 0 0).e]
  | .fin _ => [(sR4Int 1 0).e]
def sR7By (p : Pt) : Spec Tryz.prog :=
  Spec.auto Tryz.call150 [svP p] [] (.tup [.a (gC (byA p)), .a (gC (byB p))]) [] (by7E p) [(3, 3)] 400 Tryz.func150 hmA (by cases p <;> kernel_rfl) (fun β => by cases p <;> kernel_rfl)
abbrev KP : Nat := 1000000
def sR7Det {p q : Pt} (hp : PSz KP p) (hq : PSz KP q) : Spec Tryz.prog :=
  Spec.auto Tryz.call149 [svP p, svP q] [] (svG (gacross p q)) []
    [(sR7By p).e, (sR7By q).e, (sR4Times (byA_sz hp (by decide)).le (byB_sz (k := KE) (p := q) (by decide))).e, (sR4Times (byB_sz (k := KE) (p := p) (by decide)) (byA_sz hq (by decide)).le).e,
      (sR4Minus ((byA_sz hp (by decide)).mul (byB_sz (k := KP) (p := q) (by decide))).le ((byB_sz (k := KP) (p := p) (by decide)).mul (byA_sz hq (by decide))).le).e] [(3, 7)] 400 Tryz.func149 hmA (by kernel_rfl) (fun β => by kernel_rfl)
def sR7Inf : Spec Tryz.prog := Spec.auto Tryz.call121 [] [] (svP .inf) [] [] [] 400 Tryz.func121 hmA (by kernel_rfl) (fun β => by kernel_rfl)
def sR7Of (z : GQ) : Spec Tryz.prog := Spec.auto Tryz.call142 [svG z] [] (svP (.fin z)) [] [] [] 400 Tryz.func142 hmA (by kernel_rfl) (fun β => by kernel_rfl)
def sR7Int (n m : Int) (hn : -9223372036854775808 ≤ n ∧ n ≤ 9223372036854775807 := by decide) (hm : -9223372036854775808 ≤ m ∧ m ≤ 9223372036854775807 := by decide) : Spec Tryz.prog :=
  Spec.auto Tryz.call117 [.one (.c (.b (.v (.int .i64 n)))), .one (.c (.b (.v (.int .i64 m))))] [] (svP (.fin (gint n m))) [] [(sR4Int n m hn hm).e, (sR7Of (gint n m)).e] [] 400 Tryz.func117 hmA (by kernel_rfl) (fun β => by kernel_rfl)
/-- The point of two coordinates. -/
def pratio (x y : GQ) (b : Bool) : Pt := bif b then .inf else .fin (gdiv x y)
def sR7Ratio {x y : GQ} (hx : GSz KE x) (hy : GSz KE y) {b : Bool} (hb : gzero y = b) : Spec Tryz.prog :=
  ⟨226, Tryz.call226, [svG x, svG y], [], svP (pratio x y b), [], fun β w hh => by
    cases b
    · exact spec_auto (evs := [(sR4Zero y hb).e, (sR4Over hx hy hb).e, (sR7Of (gdiv x y)).e]) (Ns := []) (m := 400) Tryz.func226 hmA (fun β => by kernel_rfl) (by kernel_rfl) β w hh
    · exact spec_auto (evs := [(sR4Zero y hb).e, sR7Inf.e]) (Ns := []) (m := 400) Tryz.func226 hmA (fun β => by kernel_rfl) (by kernel_rfl) β w hh, by kernel_rfl⟩
-- layer 8
def sR8Normal {a b c d : GQ} (t : Bool) (h : MSz KE ⟨a, b, c, d, t⟩) {f : Bool} (hf : gzero c = f) (h0 : gzero (bif f then d else c) = false) : Spec Tryz.prog :=
  ⟨140, Tryz.call140, [svG a, svG b, svG c, svG d, .one (.c (.b (.v (.bool t))))], [], svM (mnormB ⟨a, b, c, d, t⟩ f), [], fun β w hh => by
    cases f
    · exact spec_auto (evs := [(sR4Zero c hf).e, (sR4Over h.a h.c h0).e, (sR4Over h.b h.c h0).e, (sR4Over h.c h.c h0).e, (sR4Over h.d h.c h0).e]) (Ns := [(4, 14)]) (m := 400) Tryz.func140 hmA (fun β => by kernel_rfl) (by kernel_rfl) β w hh
    · exact spec_auto (evs := [(sR4Zero c hf).e, (sR4Over h.a h.d h0).e, (sR4Over h.b h.d h0).e, (sR4Over h.c h.d h0).e, (sR4Over h.d h.d h0).e]) (Ns := [(4, 14)]) (m := 400) Tryz.func140 hmA (fun β => by kernel_rfl) (by kernel_rfl) β w hh, by kernel_rfl⟩
def sR8turned (z : GQ) (t : Bool) : Spec Tryz.prog :=
  ⟨155, Tryz.call155, [svG z, .one (.c (.b (.v (.bool t))))], [], svG (mcj t z), [], fun β w hh => by
    cases t
    · exact spec_auto (evs := []) (Ns := []) (m := 400) Tryz.func155 hmA (fun β => by kernel_rfl) (by kernel_rfl) β w hh
    · exact spec_auto (evs := [(sR4Conj z).e]) (Ns := []) (m := 400) Tryz.func155 hmA (fun β => by kernel_rfl) (by kernel_rfl) β w hh, by kernel_rfl⟩
def minv0 (m : MQ) : MQ := mconj (mundo0 m) m.t
theorem minv0_sz {k : Nat} {m : MQ} (h : MSz k m) : MSz k (minv0 m) := h.undo0.conj _
def sR8Inverse {m : MQ} (h : MSz KE m) {f : Bool} (hf : gzero (minv0 m).c = f) (h0 : gzero (bif f then (minv0 m).d else (minv0 m).c) = false) : Spec Tryz.prog :=
  Spec.auto Tryz.call57 [svM m] [] (svM (mnormB (minv0 m) f)) []
    [(sR8turned m.d m.t).e, (sR4Neg m.b).e, (sR8turned (gneg m.b) m.t).e, (sR4Neg m.c).e, (sR8turned (gneg m.c) m.t).e, (sR8turned m.a m.t).e, (sR8Normal (a := (minv0 m).a) (b := (minv0 m).b) (c := (minv0 m).c) (d := (minv0 m).d) m.t (minv0_sz h) hf h0).e]
    [(1, 25)] 400 Tryz.func57 hmA (by kernel_rfl) (fun β => by kernel_rfl)
theorem ssz_le {i j k : Nat} (hi : 6 * i + 6 * j + 6 ≤ k) : ssz i j ≤ k := by unfold ssz; omega
def sR8At {m : MQ} {p : Pt} (h : MSz KP m) (hp : PSz KP p) {b : Bool} (hb : gzero (msD m p) = b) : Spec Tryz.prog :=
  ⟨151, Tryz.call151, [svM m, svP p], [], svP (msend m p b), [], fun β w hh => by
    have hN : GSz KE (msN m p) := (msN_sz h hp).mono (by decide)
    have hD : GSz KE (msD m p) := (msD_sz h hp).mono (by decide)
    obtain ⟨a, b', c, d, t⟩ := m
    cases p
    · cases b
      · exact spec_auto (evs := [(sR4Zero c hb).e, (sR4Over hN hD hb).e]) (Ns := [(8, 8), (11, 10)]) (m := 400) Tryz.func151 hmA (fun β => by kernel_rfl) (by kernel_rfl) β w hh
      · exact spec_auto (evs := [(sR4Zero c hb).e]) (Ns := [(8, 8), (11, 10)]) (m := 400) Tryz.func151 hmA (fun β => by kernel_rfl) (by kernel_rfl) β w hh
    · rename_i z
      have hz : GSz KP (mcj t z) := mcj_sz hp
      cases b
      · cases t
        · exact spec_auto (evs := [(sR4Times h.c.le hz.le).e, (sR4Plus (h.c.mul hz).le h.d.le).e, (sR4Zero _ hb).e, (sR4Times h.a.le hz.le).e, (sR4Plus (h.a.mul hz).le h.b.le).e, (sR4Over hN hD hb).e]) (Ns := [(8, 8), (11, 10)]) (m := 400) Tryz.func151 hmA (fun β => by kernel_rfl) (by kernel_rfl) β w hh
        · exact spec_auto (evs := [(sR4Conj z).e, (sR4Times h.c.le hz.le).e, (sR4Plus (h.c.mul hz).le h.d.le).e, (sR4Zero _ hb).e, (sR4Times h.a.le hz.le).e, (sR4Plus (h.a.mul hz).le h.b.le).e, (sR4Over hN hD hb).e]) (Ns := [(8, 8), (11, 10)]) (m := 400) Tryz.func151 hmA (fun β => by kernel_rfl) (by kernel_rfl) β w hh
      · cases t
        · exact spec_auto (evs := [(sR4Times h.c.le hz.le).e, (sR4Plus (h.c.mul hz).le h.d.le).e, (sR4Zero _ hb).e]) (Ns := [(8, 8), (11, 10)]) (m := 400) Tryz.func151 hmA (fun β => by kernel_rfl) (by kernel_rfl) β w hh
        · exact spec_auto (evs := [(sR4Conj z).e, (sR4Times h.c.le hz.le).e, (sR4Plus (h.c.mul hz).le h.d.le).e, (sR4Zero _ hb).e]) (Ns := [(8, 8), (11, 10)]) (m := 400) Tryz.func151 hmA (fun β => by kernel_rfl) (by kernel_rfl) β w hh, by kernel_rfl⟩
def sR8Fits (m : MQ) {b : Bool} (hb : b = true ↔ FitM m) : Spec Tryz.prog :=
  ⟨135, Tryz.call135, [svM m], [], .one (.c (.b (.v (.bool b)))), [], fun β w hh => by
    by_cases h1 : FitG m.a
    · by_cases h2 : FitG m.b
      · by_cases h3 : FitG m.c
        · have h4 : b = true ↔ FitG m.d := hb.trans ⟨fun h => h.2.2.2, fun h => ⟨h1, h2, h3, h⟩⟩
          cases b <;> exact spec_auto (evs := [(sR4Fits m.a (iff_true_of h1)).e, (sR4Fits m.b (iff_true_of h2)).e, (sR4Fits m.c (iff_true_of h3)).e, (sR4Fits m.d h4).e]) (Ns := []) (m := 400) Tryz.func135 hmA (fun β => by kernel_rfl) (by kernel_rfl) β w hh
        · obtain rfl := eq_false_of hb fun h => h3 h.2.2.1
          exact spec_auto (evs := [(sR4Fits m.a (iff_true_of h1)).e, (sR4Fits m.b (iff_true_of h2)).e, (sR4Fits m.c (iff_false_of h3)).e]) (Ns := []) (m := 400) Tryz.func135 hmA (fun β => by kernel_rfl) (by kernel_rfl) β w hh
      · obtain rfl := eq_false_of hb fun h => h2 h.2.1
        exact spec_auto (evs := [(sR4Fits m.a (iff_true_of h1)).e, (sR4Fits m.b (iff_false_of h2)).e]) (Ns := []) (m := 400) Tryz.func135 hmA (fun β => by kernel_rfl) (by kernel_rfl) β w hh
    · obtain rfl := eq_false_of hb fun h => h1 h.1
      exact spec_auto (evs := [(sR4Fits m.a (iff_false_of h1)).e]) (Ns := []) (m := 400) Tryz.func135 hmA (fun β => by kernel_rfl) (by kernel_rfl) β w hh, by kernel_rfl⟩
theorem maC_fit {m : MQ} (h : FitM m) : maC m = mC m ∧ maK m = 0 := by
  obtain ⟨h1, h2⟩ := maC_yes h
  refine ⟨?_, h2⟩
  rw [h1, (ga_fit h.1).1, (ga_fit h.2.1).1, (ga_fit h.2.2.1).1, (ga_fit h.2.2.2).1]
  rfl
noncomputable def sR8Told (m : MQ) : Spec Tryz.prog :=
  ⟨51, Tryz.call51, [svM m], [], .tup [.a (maC m), .c (.b (.v (.int .i64 (maK m))))], [], fun β w hh => by
    by_cases h : FitM m
    · rw [(maC_fit h).1, (maC_fit h).2]
      exact spec_auto (evs := [(sR8Fits m (iff_true_of h)).e]) (Ns := []) (m := 400) Tryz.func51 hmA (fun β => by kernel_rfl) (by kernel_rfl) β w hh
    · rw [(maC_no h).1, (maC_no h).2]
      exact spec_auto (evs := [(sR8Fits m (iff_false_of h)).e]) (Ns := []) (m := 400) Tryz.func51 hmA (fun β => by kernel_rfl) (by kernel_rfl) β w hh, by kernel_rfl⟩
end
/- The reference of layer 10, by what it does. -/
section
open Go Go.RowKit
set_option maxRecDepth 100000

abbrev KQ : Nat := 250
theorem PSz.le {i k : Nat} {p : Pt} (h : PSz i p) (hk : Nat.ble i k = true := by decide) : PSz k p := h.mono (Nat.le_of_ble_eq_true hk)
theorem MSz.le {i k : Nat} {m : MQ} (h : MSz i m) (hk : Nat.ble i k = true := by decide) : MSz k m := h.mono (Nat.le_of_ble_eq_true hk)
/-- How long the chart's numbers are, of points of k bytes. -/
abbrev csz (k : Nat) : Nat := k + (k + k + (k + k) + 1 + (k + k + (k + k) + 1) + 1) + (k + (k + k + (k + k) + 1 + (k + k + (k + k) + 1) + 1)) + 1
theorem mchart0_sz {k : Nat} {p q r : Pt} (hp : PSz k p) (hq : PSz k q) (hr : PSz k r) (hk : 1 ≤ k) : MSz (csz k) (mchart0 p q r) :=
  ⟨(byB_sz hk).mul (gacross_sz hq hr hk), ((byA_sz hp hk).mul (gacross_sz hq hr hk)).neg, (byB_sz hk).mul (gacross_sz hq hp hk), ((byA_sz hr hk).mul (gacross_sz hq hp hk)).neg⟩
theorem rchart0_sz {k : Nat} {a b c : Pt} (ha : PSz k a) (hb : PSz k b) (hc : PSz k c) (hk : 1 ≤ k) : MSz (csz k) (rchart0 a b c) :=
  ⟨((byB_sz hk).mul (gacross_sz ha hb hk)).neg, (byA_sz hc hk).mul (gacross_sz ha hb hk), (byB_sz hk).mul (gacross_sz hb hc hk), ((byA_sz ha hk).mul (gacross_sz hb hc hk)).neg⟩
def sR10Chart {a b c : Pt} (ha : PSz KQ a) (hb : PSz KQ b) (hc : PSz KQ c) {f : Bool} (hf : gzero (rchart0 a b c).c = f) (h0 : gzero (bif f then (rchart0 a b c).d else (rchart0 a b c).c) = false) : Spec Tryz.prog :=
  Spec.auto Tryz.call52 [svP a, svP b, svP c] [] (svM (mnormB (rchart0 a b c) f)) []
    [(sR7Det ha.le hb.le).e, (sR7Det hb.le hc.le).e, (sR7By a).e, (sR7By c).e, (sR4Times (byB_sz (k := KE) (p := c) (by decide)) (gacross_sz ha hb (by decide)).le).e, (sR4Neg (gmul (byB c) (gacross a b))).e,
      (sR4Times (byA_sz hc (by decide)).le (gacross_sz ha hb (by decide)).le).e, (sR4Times (byB_sz (k := KE) (p := a) (by decide)) (gacross_sz hb hc (by decide)).le).e, (sR4Times (byA_sz ha (by decide)).le (gacross_sz hb hc (by decide)).le).e, (sR4Neg (gmul (byA a) (gacross b c))).e,
      (sR8Normal (a := (rchart0 a b c).a) (b := (rchart0 a b c).b) (c := (rchart0 a b c).c) (d := (rchart0 a b c).d) false (rchart0_sz ha hb hc (by decide)).le hf h0).e] [(1, 8), (4, 15)] 800 Tryz.func52 hmA (by kernel_rfl) (fun β => by kernel_rfl)
/-- The chart of three unlike points; the fourth point of a ratio. -/
def pchart (a b c : Pt) : MQ := mnormB (rchart0 a b c) (gzero (rchart0 a b c).c)
def pback (a b c : Pt) : MQ := mnormB (minv0 (pchart a b c)) (gzero (minv0 (pchart a b c)).c)
def pfourth (a b c r : Pt) : Pt := msend (pback a b c) r (gzero (msD (pback a b c) r))
theorem rchart_reg {a b c : Pt} (h1 : a ≠ b) (h2 : b ≠ c) (h3 : c ≠ a) : Reg (rchart0 a b c) := by
  rw [rchart_eq]
  exact Reg.chart (Ne.symm h2) (Ne.symm h1) h3
theorem pchart_reg {a b c : Pt} (h1 : a ≠ b) (h2 : b ≠ c) (h3 : c ≠ a) : Reg (pchart a b c) := (rchart_reg h1 h2 h3).norm ((rchart_reg h1 h2 h3).by_ rfl)
theorem minv_reg {m : MQ} (h : Reg m) : Reg (minv0 m) := h.undo0.conj _
theorem pback_reg {a b c : Pt} (h1 : a ≠ b) (h2 : b ≠ c) (h3 : c ≠ a) : Reg (pback a b c) := (minv_reg (pchart_reg h1 h2 h3)).norm ((minv_reg (pchart_reg h1 h2 h3)).by_ rfl)
theorem pchart_sz {k : Nat} {a b c : Pt} (ha : PSz k a) (hb : PSz k b) (hc : PSz k c) (hk : 1 ≤ k) (h1 : a ≠ b) (h2 : b ≠ c) (h3 : c ≠ a) : MSz (dsz (csz k)) (pchart a b c) := (rchart0_sz ha hb hc hk).normB ((rchart_reg h1 h2 h3).by0 rfl)
theorem pback_sz {k : Nat} {a b c : Pt} (ha : PSz k a) (hb : PSz k b) (hc : PSz k c) (hk : 1 ≤ k) (h1 : a ≠ b) (h2 : b ≠ c) (h3 : c ≠ a) : MSz (dsz (dsz (csz k))) (pback a b c) := (minv0_sz (pchart_sz ha hb hc hk h1 h2 h3)).normB ((minv_reg (pchart_reg h1 h2 h3)).by0 rfl)
section
variable {a b c r : Pt} (ha : PSz KQ a) (hb : PSz KQ b) (hc : PSz KQ c) (hr : PSz KQ r) (h1 : a ≠ b) (h2 : b ≠ c) (h3 : c ≠ a)
def sR10Chart1 : Spec Tryz.prog := sR10Chart ha hb hc (f := gzero (rchart0 a b c).c) rfl ((rchart_reg h1 h2 h3).by0 rfl)
def sR10Fourth : Spec Tryz.prog :=
  Spec.auto Tryz.call53 [svP a, svP b, svP c, svP r] [] (svP (pfourth a b c r)) []
    [(sR10Chart1 ha hb hc h1 h2 h3).e, (sR8Inverse (pchart_sz ha hb hc (by decide) h1 h2 h3).le (f := gzero (minv0 (pchart a b c)).c) rfl ((minv_reg (pchart_reg h1 h2 h3)).by0 rfl)).e,
      (sR8At (pback_sz ha hb hc (by decide) h1 h2 h3).le hr.le (b := gzero (msD (pback a b c) r)) rfl).e] [(1, 7)] 800 Tryz.func53 hmA (by kernel_rfl) (fun β => by kernel_rfl)
end
def tw10E (p q r : Rw) {t1 t2 t3 : Bool} (h1 : rwB p.i q.i p.x p.y q.x q.y = t1) (h2 : rwB q.i r.i q.x q.y r.x r.y = t2) (h3 : rwB p.i r.i p.x p.y r.x r.y = t3) : List (Ev Tryz.prog) :=
  eqP1 p.i q.i p.x p.y q.x q.y t1 h1 :: (bif t1 then [] else eqP1 q.i r.i q.x q.y r.x r.y t2 h2 :: (bif t2 then [] else [eqP1 p.i r.i p.x p.y r.x r.y t3 h3]))
def sR10Twins (p q r : Rw) {t1 t2 t3 : Bool} (h1 : rwB p.i q.i p.x p.y q.x q.y = t1) (h2 : rwB q.i r.i q.x q.y r.x r.y = t2) (h3 : rwB p.i r.i p.x p.y r.x r.y = t3) : Spec Tryz.prog :=
  ⟨48, Tryz.call48, [svR p.i p.x p.y, svR q.i q.x q.y, svR r.i r.x r.y], [], .one (.c (.b (.v (.bool (t1 || (t2 || t3)))))), [], fun β w hh => by
    cases t1
    · cases t2
      · cases t3 <;> exact spec_auto (evs := [eqP1 p.i q.i p.x p.y q.x q.y _ h1, eqP1 q.i r.i q.x q.y r.x r.y _ h2, eqP1 p.i r.i p.x p.y r.x r.y _ h3]) (Ns := []) (m := 400) Tryz.func48 hmA (fun β => by kernel_rfl) (by kernel_rfl) β w hh
      · exact spec_auto (evs := [eqP1 p.i q.i p.x p.y q.x q.y _ h1, eqP1 q.i r.i q.x q.y r.x r.y _ h2]) (Ns := []) (m := 400) Tryz.func48 hmA (fun β => by kernel_rfl) (by kernel_rfl) β w hh
    · exact spec_auto (evs := [eqP1 p.i q.i p.x p.y q.x q.y _ h1]) (Ns := []) (m := 400) Tryz.func48 hmA (fun β => by kernel_rfl) (by kernel_rfl) β w hh, by kernel_rfl⟩
end
/- Package cross: charts, the fourth point. -/
section
open Go Go.RowKit
set_option maxRecDepth 100000

def Spec.as2 {P : Program} (S : Spec P) (args : List SV) (res : SV) (news : List Thing) (ha : S.args = args) (hr : S.res = res) (hn : S.news = news) : Spec P :=
  ⟨S.f, S.en, args, S.obs, res, news, fun β w hh => by subst ha; subst hr; subst hn; exact S.ok β w hh, by subst ha; subst hr; subst hn; exact S.closed⟩
theorem sv_raw4 (p q r s : Pp) : ([SV.one (.a (p.C ++ q.C ++ r.C ++ s.C))] : List SV) = [.one (.a (p.w.C ++ q.w.C ++ r.w.C ++ s.w.C))] := by
  rw [Pp.C_raw p, Pp.C_raw q, Pp.C_raw r, Pp.C_raw s]; rfl
noncomputable def sOpenBad (p q r s : Pp) (h : openB p q r s = false) : Spec Tryz.prog :=
  (sOpen4 p q r s).as2 [.one (.a (p.w.C ++ q.w.C ++ r.w.C ++ s.w.C))] (.tup [.a (zP ++ zP ++ zP ++ zP), .c (.b (.v (.int .i64 2)))]) [] (sv_raw4 p q r s) (by show SV.tup [.a (openA p q r s), .c (.b (.v (.int .i64 (openK p q r s))))] = _; unfold openA openK; rw [h]; rfl) (by show openT p q r s = _; unfold openT; rw [h]; rfl)
theorem sv_ppt4 {p q r s : Pt} (hp : FitP p) (hq : FitP q) (hr : FitP r) (hs : FitP s) : ([SV.one (.a ((ppt p hp).C ++ (ppt q hq).C ++ (ppt r hr).C ++ (ppt s hs).C))] : List SV) = [.one (.a (p.w.C ++ q.w.C ++ r.w.C ++ s.w.C))] := by
  rw [ppt_C, ppt_C, ppt_C, ppt_C]; rfl
noncomputable def sOpenOk {p q r s : Pt} (hp : FitP p) (hq : FitP q) (hr : FitP r) (hs : FitP s) : Spec Tryz.prog :=
  (sOpen4 (ppt p hp) (ppt q hq) (ppt r hr) (ppt s hs)).as2 [.one (.a (p.w.C ++ q.w.C ++ r.w.C ++ s.w.C))] (.tup [.a (plC 0 p ++ plC (plN p) q ++ plC (plN p + plN q) r ++ plC (plN p + plN q + plN r) s), .c (.b (.v (.int .i64 0)))]) (plT p ++ plT q ++ plT r ++ plT s) (sv_ppt4 hp hq hr hs)
    (by cases p <;> cases q <;> cases r <;> cases s <;> rfl) (by cases p <;> cases q <;> cases r <;> cases s <;> rfl)
/-- No map. -/
def mz : List Lf := [nilL, nilL, nilL, nilL, nilL, nilL, nilL, nilL, .b (.v (.bool false))]
abbrev svI (k : Int) : SC := .c (.b (.v (.int .i64 k)))
section
variable (a b c : Pp)
noncomputable def sCBad (h : openB c b a a = false) : Spec Tryz.prog :=
  Spec.auto Tryz.call143 [.one (.a a.w.C), .one (.a b.w.C), .one (.a c.w.C)] [] (.tup [.a mz, svI 2]) [] [(sOpenBad c b a a h).e] [] 800 Tryz.func143 hmA (by kernel_rfl) (fun β => by kernel_rfl)
end
section
variable {a b c : Pt} (ha : FitP a) (hb : FitP b) (hc : FitP c)
noncomputable def twE {t1 t2 t3 : Bool} (h1 : ptB a b = t1) (h2 : ptB b c = t2) (h3 : ptB c a = t3) : List (Ev Tryz.prog) := [(sOpenOk hc hb ha ha).e, eqP2 h1, eqP2 h2, eqP2 h3]
noncomputable def sCTwin {t1 t2 t3 : Bool} (h1 : ptB a b = t1) (h2 : ptB b c = t2) (h3 : ptB c a = t3) (h : (t1 || (t2 || t3)) = true) : Spec Tryz.prog :=
  ⟨143, Tryz.call143, [svP a, svP b, svP c], [], .tup [.a mz, svI 200], [], fun β w hh => by
    cases t1
    · cases t2
      · cases t3
        · cases h
        · cases a <;> cases b <;> cases c <;> exact spec_auto (evs := [(sOpenOk hc hb ha ha).e, eqP2 h1, eqP2 h2, eqP2 h3]) (Ns := []) (m := 800) Tryz.func143 hmA (fun β => by kernel_rfl) (by kernel_rfl) β w hh
      · cases a <;> cases b <;> cases c <;> exact spec_auto (evs := [(sOpenOk hc hb ha ha).e, eqP2 h1, eqP2 h2]) (Ns := []) (m := 800) Tryz.func143 hmA (fun β => by kernel_rfl) (by kernel_rfl) β w hh
    · cases a <;> cases b <;> cases c <;> exact spec_auto (evs := [(sOpenOk hc hb ha ha).e, eqP2 h1]) (Ns := []) (m := 800) Tryz.func143 hmA (fun β => by kernel_rfl) (by kernel_rfl) β w hh, by kernel_rfl⟩
noncomputable def sCChart0 (h1 : ptB a b = false) (h2 : ptB b c = false) (h3 : ptB c a = false) {f : Bool} (hf : gzero (mchart0 c b a).c = f) (h0 : gzero (bif f then (mchart0 c b a).d else (mchart0 c b a).c) = false) : Spec Tryz.prog :=
  Spec.auto Tryz.call143 [svP a, svP b, svP c] [] (.tup [mxA 0 (mnormB (mchart0 c b a) f), svI 0]) (mxT (mnormB (mchart0 c b a) f))
    [(sOpenOk hc hb ha ha).e, eqP2 h1, eqP2 h2, eqP2 h3, (sChart hc.sz.le hb.sz.le ha.sz.le hf h0).e] [] 800 Tryz.func143 hmA (by kernel_rfl) (fun β => by cases a <;> cases b <;> cases c <;> kernel_rfl)
theorem pchart_eq (a b c : Pt) : mnormB (mchart0 c b a) (gzero (mchart0 c b a).c) = pchart a b c := by unfold pchart; rw [rchart_eq]
theorem ptB_sym {p q : Pt} (h : p ≠ q) : ptB p q = false := by
  cases k : ptB p q
  · rfl
  · exact absurd (ptB_iff.1 k) h
noncomputable def sCChart (h1 : a ≠ b) (h2 : b ≠ c) (h3 : c ≠ a) : Spec Tryz.prog :=
  (sCChart0 ha hb hc (ptB_sym h1) (ptB_sym h2) (ptB_sym h3) (f := gzero (mchart0 c b a).c) rfl ((Reg.chart (Ne.symm h2) (Ne.symm h1) h3).by0 rfl)).as2 [svP a, svP b, svP c] (.tup [mxA 0 (pchart a b c), svI 0]) (mxT (pchart a b c)) rfl
    (congrArg (fun m => SV.tup [mxA 0 m, svI 0]) (pchart_eq a b c)) (congrArg mxT (pchart_eq a b c))
end
-- what is already in its one form
theorem gdiv_self {u : GQ} (h : u ≠ g0) : gdiv u u = ⟨1, 0⟩ := by
  rw [gdiv_eq_iff h]
  refine GQ.ext2 ?_ ?_ <;> (simp only [gmul]; grind)
theorem gdiv_one (z : GQ) : gdiv z ⟨1, 0⟩ = z := by
  rw [gdiv_eq_iff (fun e => by have := congrArg GQ.re e; exact absurd this (by show (1 : Rat) ≠ 0; decide))]
  refine GQ.ext2 ?_ ?_ <;> (simp only [gmul]; grind)
theorem one_ne : (⟨1, 0⟩ : GQ) ≠ g0 := fun e => by have := congrArg GQ.re e; exact absurd this (by show (1 : Rat) ≠ 0; decide)
theorem norm_c {m : MQ} {f : Bool} (hf : gzero m.c = f) (h0 : (bif f then m.d else m.c) ≠ g0) : gzero (mnormB m f).c = f ∧ (bif f then (mnormB m f).d else (mnormB m f).c) = ⟨1, 0⟩ := by
  cases f
  · have h : m.c ≠ g0 := h0
    refine ⟨?_, gdiv_self h0⟩
    show gzero (gdiv m.c m.c) = false
    rw [gdiv_self h]
    exact gz_false.2 one_ne
  · have h : m.d ≠ g0 := h0
    refine ⟨?_, gdiv_self h0⟩
    show gzero (gdiv m.c m.d) = true
    rw [gz_true.1 hf, gz_true, gdiv_eq_iff h]
    refine GQ.ext2 ?_ ?_ <;> (simp only [gmul, g0]; grind)
theorem norm_idem {m : MQ} {f : Bool} (hf : gzero m.c = f) (h0 : (bif f then m.d else m.c) ≠ g0) : mnormB (mnormB m f) f = mnormB m f := by
  obtain ⟨_, h2⟩ := norm_c hf h0
  generalize mnormB m f = M at h2
  unfold mnormB
  rw [h2, gdiv_one, gdiv_one, gdiv_one, gdiv_one]
/-- An answered map that is in its one form. -/
noncomputable def sToldN {m : MQ} {f : Bool} (hf : gzero m.c = f) (h0 : (bif f then m.d else m.c) ≠ g0) (hz : MSz KM (mnormB m f)) : Spec Tryz.prog :=
  (sToldM hz (norm_c hf h0).1 (by rw [(norm_c hf h0).2]; exact gz_false.2 one_ne)).as [.one (mxA 0 (mnormB m f))] (.tup [.a (maC (mnormB m f)), svI (maK (mnormB m f))]) rfl (congrArg (fun m => SV.tup [.a (maC m), svI (maK m)]) (norm_idem hf h0))
/-- No point, no map that is answered. -/
abbrev svZ (k : Int) : SV := .tup [.a (rawC false r40 r40), svI k]
def mz0 : List Lf := g0C ++ g0C ++ g0C ++ g0C ++ [.b (.v (.bool false))]
noncomputable def sChartBad (a b c : Pp) (h : openB c b a a = false) : Spec Tryz.prog :=
  Spec.auto Tryz.call46 [.one (.a a.w.C), .one (.a b.w.C), .one (.a c.w.C)] [] (.tup [.a mz0, svI 2]) [] [(sCBad a b c h).e] [] 800 Tryz.func46 hmA (by kernel_rfl) (fun β => by kernel_rfl)
noncomputable def sFourthBad (a b c r : Pp) (h : openB c b a a = false) : Spec Tryz.prog :=
  Spec.auto Tryz.call45 [.one (.a a.w.C), .one (.a b.w.C), .one (.a c.w.C), .one (.a r.w.C)] [] (svZ 2) [] [(sSpot r).e, (sCBad a b c h).e] [(7, 7)] 800 Tryz.func45 hmA (by kernel_rfl) (fun β => by rcases r with _ | ⟨_ | _, _ | _⟩ | _ <;> kernel_rfl)
section
variable {a b c : Pt} (ha : FitP a) (hb : FitP b) (hc : FitP c)
noncomputable def sChartTwin {t1 t2 t3 : Bool} (h1 : ptB a b = t1) (h2 : ptB b c = t2) (h3 : ptB c a = t3) (h : (t1 || (t2 || t3)) = true) : Spec Tryz.prog :=
  Spec.auto Tryz.call46 [svP a, svP b, svP c] [] (.tup [.a mz0, svI 200]) [] [(sCTwin ha hb hc h1 h2 h3 h).e] [] 800 Tryz.func46 hmA (by kernel_rfl) (fun β => by kernel_rfl)
noncomputable def sFourthTwin (r : Pp) {t1 t2 t3 : Bool} (h1 : ptB a b = t1) (h2 : ptB b c = t2) (h3 : ptB c a = t3) (h : (t1 || (t2 || t3)) = true) {k : Bool} (hk : r.B = k) : Spec Tryz.prog :=
  ⟨45, Tryz.call45, [svP a, svP b, svP c, .one (.a r.w.C)], [], svZ (bif k then 200 else 2), [], fun β w hh => by
    subst hk
    exact spec_auto (evs := [(sSpot r).e, (sCTwin ha hb hc h1 h2 h3 h).e]) (Ns := [(7, 7)]) (m := 800) Tryz.func45 hmA (fun β => by rcases r with _ | ⟨_ | _, _ | _⟩ | _ <;> kernel_rfl) (by kernel_rfl) β w hh, by cases k <;> kernel_rfl⟩
variable (h1 : a ≠ b) (h2 : b ≠ c) (h3 : c ≠ a)
noncomputable def sChartOk : Spec Tryz.prog :=
  Spec.auto Tryz.call46 [svP a, svP b, svP c] [] (.tup [.a (maC (pchart a b c)), svI (maK (pchart a b c))]) []
    [(sCChart ha hb hc h1 h2 h3).e, (sToldN (m := rchart0 a b c) (f := gzero (rchart0 a b c).c) rfl ((rchart_reg h1 h2 h3).by_ rfl) (pchart_sz ha.sz hb.sz hc.sz (by decide) h1 h2 h3).le).e] [] 800 Tryz.func46 hmA (by kernel_rfl) (fun β => by kernel_rfl)
noncomputable def sFourthNo (r : Pp) (hr : r.B = false) : Spec Tryz.prog :=
  ⟨45, Tryz.call45, [svP a, svP b, svP c, .one (.a r.w.C)], [], svZ 2, [], fun β w hh => by
    exact spec_auto (evs := [(sSpot r).e, (sCChart ha hb hc h1 h2 h3).e]) (Ns := [(7, 7)]) (m := 800) Tryz.func45 hmA (fun β => by rcases r with _ | ⟨_ | _, _ | _⟩ | _ <;> first | (cases hr; done) | kernel_rfl) (by kernel_rfl) β w hh, by kernel_rfl⟩
theorem send_sz {i j : Nat} {m : MQ} {p : Pt} (h : MSz i m) (hp : PSz j p) {b : Bool} (hb : gzero (msD m p) = b) : PSz (dsz (ssz i j)) (msend m p b) := by
  cases b
  · exact (msN_sz h hp).div (msD_sz h hp) hb
  · trivial
noncomputable def sFourth0 {r : Pt} (hr : FitP r) {f : Bool} (hf : gzero (msD (pback a b c) r) = f) : Spec Tryz.prog :=
  Spec.auto Tryz.call45 [svP a, svP b, svP c, svP r] [] (.tup [.a (paC (msend (pback a b c) r f)), svI (paK (msend (pback a b c) r f))]) []
    [(sSpot (ppt r hr)).e, (sCChart ha hb hc h1 h2 h3).e, (sUndo (m := pchart a b c) (pchart_sz ha.sz hb.sz hc.sz (by decide) h1 h2 h3).le (b := gzero (minv0 (pchart a b c)).c) rfl ((minv_reg (pchart_reg h1 h2 h3)).by0 rfl)).e,
      (sSend (m := pback a b c) (pback_sz ha.sz hb.sz hc.sz (by decide) h1 h2 h3).le hr.sz.le hf).e,
      (sToldP (msend (pback a b c) r f) (send_sz (pback_sz ha.sz hb.sz hc.sz (by decide) h1 h2 h3) hr.sz hf).le).e] [(7, 7)] 800 Tryz.func45 hmA (by cases f <;> kernel_rfl) (fun β => by cases r <;> cases f <;> kernel_rfl)
noncomputable def sFourthOk {r : Pt} (hr : FitP r) : Spec Tryz.prog :=
  (sFourth0 ha hb hc h1 h2 h3 hr (f := gzero (msD (pback a b c) r)) rfl).as [svP a, svP b, svP c, svP r] (svA (pfourth a b c r) (paK (pfourth a b c r))) rfl (congrArg (fun l => SV.tup [.a l, svI (paK (pfourth a b c r))]) (paC_raw (pfourth a b c r)))
end
end
/- Package cross: the ratio. -/
section
open Go Go.RowKit
set_option maxRecDepth 100000

theorem ptB_comm (p q : Pt) : ptB p q = ptB q p := by
  rw [Bool.eq_iff_iff, ptB_iff, ptB_iff]
  exact ⟨Eq.symm, Eq.symm⟩
theorem ptB_comm' {p q : Pt} {r : Bool} (h : ptB p q = r) : ptB q p = r := by rw [ptB_comm]; exact h
def b2i (b : Bool) : Int := bif b then 1 else 0
/-- How many of four points are the same at most. -/
def mostI (a b c d e f : Bool) : Int := max (max (max (max 0 (1 + b2i a + b2i b + b2i c)) (b2i a + 1 + b2i d + b2i e)) (b2i b + b2i d + 1 + b2i f)) (b2i c + b2i e + b2i f + 1)
section
variable {p q r s : Pt} {a b c d e f : Bool} (ha : ptB p q = a) (hb : ptB p r = b) (hc : ptB p s = c) (hd : ptB q r = d) (he : ptB q s = e) (hf : ptB r s = f)
def mostE : List (Ev Tryz.prog) := [eqP2 (ptB_self p), eqP2 ha, eqP2 hb, eqP2 hc, eqP2 (ptB_comm' ha), eqP2 (ptB_self q), eqP2 hd, eqP2 he, eqP2 (ptB_comm' hb), eqP2 (ptB_comm' hd), eqP2 (ptB_self r), eqP2 hf, eqP2 (ptB_comm' hc), eqP2 (ptB_comm' he), eqP2 (ptB_comm' hf), eqP2 (ptB_self s)]
def mostA (p q r s : Pt) : List SV := [.one (.a (p.w.C ++ q.w.C ++ r.w.C ++ s.w.C))]
end
noncomputable def mostL (p q r s : Pt) (a b c d e f : Bool) (ha : ptB p q = a) (hb : ptB p r = b) (hc : ptB p s = c) (hd : ptB q r = d) (he : ptB q s = e) (hf : ptB r s = f) (β : Env) : List Tm := (specA Tryz.prog Tryz.f157 (mostA p q r s) [] (mostE ha hb hc hd he hf) [] 3000 (.one (svI (mostI a b c d e f))) [] β).map Prod.fst
noncomputable def mostR (p q r s : Pt) (a b c d e f : Bool) (ha : ptB p q = a) (hb : ptB p r = b) (hc : ptB p s = c) (hd : ptB q r = d) (he : ptB q s = e) (hf : ptB r s = f) (β : Env) : List Tm := (specA Tryz.prog Tryz.f157 (mostA p q r s) [] (mostE ha hb hc hd he hf) [] 3000 (.one (svI (mostI a b c d e f))) [] β).map Prod.snd
theorem tri1 {p q r : Pt} (h1 : ptB p q = true) (h2 : ptB q r = true) (h3 : ptB p r = false) : False := by
  rw [ptB_iff.1 h1, ptB_iff.1 h2, ptB_self] at h3
  cases h3
theorem tri2 {p q r : Pt} (h1 : ptB p q = true) (h2 : ptB q r = false) (h3 : ptB p r = true) : False := tri1 (ptB_comm' h1) h3 h2
theorem tri3 {p q r : Pt} (h1 : ptB p q = false) (h2 : ptB q r = true) (h3 : ptB p r = true) : False := tri1 h3 (ptB_comm' h2) h1
theorem most_0 (p q r s : Pt) (ha : ptB p q = false) (hb : ptB p r = false) (hc : ptB p s = false) (hd : ptB q r = false) (he : ptB q s = false) (hf : ptB r s = false) (β : Env) : mostL p q r s false false false false false false ha hb hc hd he hf β = mostR p q r s false false false false false false ha hb hc hd he hf β := by kernel_rfl
theorem most_1 (p q r s : Pt) (ha : ptB p q = false) (hb : ptB p r = false) (hc : ptB p s = false) (hd : ptB q r = false) (he : ptB q s = false) (hf : ptB r s = true) (β : Env) : mostL p q r s false false false false false true ha hb hc hd he hf β = mostR p q r s false false false false false true ha hb hc hd he hf β := by kernel_rfl
theorem most_2 (p q r s : Pt) (ha : ptB p q = false) (hb : ptB p r = false) (hc : ptB p s = false) (hd : ptB q r = false) (he : ptB q s = true) (hf : ptB r s = false) (β : Env) : mostL p q r s false false false false true false ha hb hc hd he hf β = mostR p q r s false false false false true false ha hb hc hd he hf β := by kernel_rfl
theorem most_3 (p q r s : Pt) (ha : ptB p q = false) (hb : ptB p r = false) (hc : ptB p s = false) (hd : ptB q r = true) (he : ptB q s = false) (hf : ptB r s = false) (β : Env) : mostL p q r s false false false true false false ha hb hc hd he hf β = mostR p q r s false false false true false false ha hb hc hd he hf β := by kernel_rfl
theorem most_4 (p q r s : Pt) (ha : ptB p q = false) (hb : ptB p r = false) (hc : ptB p s = false) (hd : ptB q r = true) (he : ptB q s = true) (hf : ptB r s = true) (β : Env) : mostL p q r s false false false true true true ha hb hc hd he hf β = mostR p q r s false false false true true true ha hb hc hd he hf β := by kernel_rfl
theorem most_5 (p q r s : Pt) (ha : ptB p q = false) (hb : ptB p r = false) (hc : ptB p s = true) (hd : ptB q r = false) (he : ptB q s = false) (hf : ptB r s = false) (β : Env) : mostL p q r s false false true false false false ha hb hc hd he hf β = mostR p q r s false false true false false false ha hb hc hd he hf β := by kernel_rfl
theorem most_6 (p q r s : Pt) (ha : ptB p q = false) (hb : ptB p r = false) (hc : ptB p s = true) (hd : ptB q r = true) (he : ptB q s = false) (hf : ptB r s = false) (β : Env) : mostL p q r s false false true true false false ha hb hc hd he hf β = mostR p q r s false false true true false false ha hb hc hd he hf β := by kernel_rfl
theorem most_7 (p q r s : Pt) (ha : ptB p q = false) (hb : ptB p r = true) (hc : ptB p s = false) (hd : ptB q r = false) (he : ptB q s = false) (hf : ptB r s = false) (β : Env) : mostL p q r s false true false false false false ha hb hc hd he hf β = mostR p q r s false true false false false false ha hb hc hd he hf β := by kernel_rfl
theorem most_8 (p q r s : Pt) (ha : ptB p q = false) (hb : ptB p r = true) (hc : ptB p s = false) (hd : ptB q r = false) (he : ptB q s = true) (hf : ptB r s = false) (β : Env) : mostL p q r s false true false false true false ha hb hc hd he hf β = mostR p q r s false true false false true false ha hb hc hd he hf β := by kernel_rfl
theorem most_9 (p q r s : Pt) (ha : ptB p q = false) (hb : ptB p r = true) (hc : ptB p s = true) (hd : ptB q r = false) (he : ptB q s = false) (hf : ptB r s = true) (β : Env) : mostL p q r s false true true false false true ha hb hc hd he hf β = mostR p q r s false true true false false true ha hb hc hd he hf β := by kernel_rfl
theorem most_10 (p q r s : Pt) (ha : ptB p q = true) (hb : ptB p r = false) (hc : ptB p s = false) (hd : ptB q r = false) (he : ptB q s = false) (hf : ptB r s = false) (β : Env) : mostL p q r s true false false false false false ha hb hc hd he hf β = mostR p q r s true false false false false false ha hb hc hd he hf β := by kernel_rfl
theorem most_11 (p q r s : Pt) (ha : ptB p q = true) (hb : ptB p r = false) (hc : ptB p s = false) (hd : ptB q r = false) (he : ptB q s = false) (hf : ptB r s = true) (β : Env) : mostL p q r s true false false false false true ha hb hc hd he hf β = mostR p q r s true false false false false true ha hb hc hd he hf β := by kernel_rfl
theorem most_12 (p q r s : Pt) (ha : ptB p q = true) (hb : ptB p r = false) (hc : ptB p s = true) (hd : ptB q r = false) (he : ptB q s = true) (hf : ptB r s = false) (β : Env) : mostL p q r s true false true false true false ha hb hc hd he hf β = mostR p q r s true false true false true false ha hb hc hd he hf β := by kernel_rfl
theorem most_13 (p q r s : Pt) (ha : ptB p q = true) (hb : ptB p r = true) (hc : ptB p s = false) (hd : ptB q r = true) (he : ptB q s = false) (hf : ptB r s = false) (β : Env) : mostL p q r s true true false true false false ha hb hc hd he hf β = mostR p q r s true true false true false false ha hb hc hd he hf β := by kernel_rfl
theorem most_14 (p q r s : Pt) (ha : ptB p q = true) (hb : ptB p r = true) (hc : ptB p s = true) (hd : ptB q r = true) (he : ptB q s = true) (hf : ptB r s = true) (β : Env) : mostL p q r s true true true true true true ha hb hc hd he hf β = mostR p q r s true true true true true true ha hb hc hd he hf β := by kernel_rfl
theorem most_all (p q r s : Pt) (a b c d e f : Bool) (ha : ptB p q = a) (hb : ptB p r = b) (hc : ptB p s = c) (hd : ptB q r = d) (he : ptB q s = e) (hf : ptB r s = f) (β : Env) : mostL p q r s a b c d e f ha hb hc hd he hf β = mostR p q r s a b c d e f ha hb hc hd he hf β := by
  cases a
  · cases b
    · cases c
      · cases d
        · cases e
          · cases f
            · exact most_0 p q r s ha hb hc hd he hf β
            · exact most_1 p q r s ha hb hc hd he hf β
          · cases f
            · exact most_2 p q r s ha hb hc hd he hf β
            · exact (tri3 hd hf he).elim
        · cases e
          · cases f
            · exact most_3 p q r s ha hb hc hd he hf β
            · exact (tri1 hd hf he).elim
          · cases f
            · exact (tri2 hd hf he).elim
            · exact most_4 p q r s ha hb hc hd he hf β
      · cases d
        · cases e
          · cases f
            · exact most_5 p q r s ha hb hc hd he hf β
            · exact (tri3 hb hf hc).elim
          · exact (tri3 ha he hc).elim
        · cases e
          · cases f
            · exact most_6 p q r s ha hb hc hd he hf β
            · exact (tri3 hb hf hc).elim
          · exact (tri3 ha he hc).elim
    · cases c
      · cases d
        · cases e
          · cases f
            · exact most_7 p q r s ha hb hc hd he hf β
            · exact (tri1 hb hf hc).elim
          · cases f
            · exact most_8 p q r s ha hb hc hd he hf β
            · exact (tri1 hb hf hc).elim
        · exact (tri3 ha hd hb).elim
      · cases d
        · cases e
          · cases f
            · exact (tri2 hb hf hc).elim
            · exact most_9 p q r s ha hb hc hd he hf β
          · exact (tri3 ha he hc).elim
        · exact (tri3 ha hd hb).elim
  · cases b
    · cases c
      · cases d
        · cases e
          · cases f
            · exact most_10 p q r s ha hb hc hd he hf β
            · exact most_11 p q r s ha hb hc hd he hf β
          · exact (tri1 ha he hc).elim
        · exact (tri1 ha hd hb).elim
      · cases d
        · cases e
          · exact (tri2 ha he hc).elim
          · cases f
            · exact most_12 p q r s ha hb hc hd he hf β
            · exact (tri3 hb hf hc).elim
        · exact (tri1 ha hd hb).elim
    · cases c
      · cases d
        · exact (tri2 ha hd hb).elim
        · cases e
          · cases f
            · exact most_13 p q r s ha hb hc hd he hf β
            · exact (tri1 hb hf hc).elim
          · exact (tri1 ha he hc).elim
      · cases d
        · exact (tri2 ha hd hb).elim
        · cases e
          · exact (tri2 ha he hc).elim
          · cases f
            · exact (tri2 hb hf hc).elim
            · exact most_14 p q r s ha hb hc hd he hf β
section
variable {p q r s : Pt} {a b c d e f : Bool} (ha : ptB p q = a) (hb : ptB p r = b) (hc : ptB p s = c) (hd : ptB q r = d) (he : ptB q s = e) (hf : ptB r s = f)
noncomputable def sMost : Spec Tryz.prog :=
  Spec.auto Tryz.call157 (mostA p q r s) [] (.one (svI (mostI a b c d e f))) [] (mostE ha hb hc hd he hf) [] 3000 Tryz.func157 hmA (by kernel_rfl) (fun β => most_all p q r s a b c d e f ha hb hc hd he hf β)
end
end
/- Package cross: Ratio, Round, Harmonic. -/
section
open Go Go.RowKit
set_option maxRecDepth 100000

def fourC (p q r s : Pt) : List Lf := plC 0 p ++ plC (plN p) q ++ plC (plN p + plN q) r ++ plC (plN p + plN q + plN r) s
def fourT (p q r s : Pt) : List Thing := plT p ++ plT q ++ plT r ++ plT s
abbrev fourN (p q r s : Pt) : Nat := plN p + plN q + plN r + plN s
def ratX (p q r s : Pt) : GQ := gmul (gacross p q) (gacross r s)
def ratY (p q r s : Pt) : GQ := gmul (gacross q r) (gacross s p)
abbrev rsz (k : Nat) : Nat := (k + k + (k + k) + 1 + (k + k + (k + k) + 1) + 1) + (k + k + (k + k) + 1 + (k + k + (k + k) + 1) + 1) + ((k + k + (k + k) + 1 + (k + k + (k + k) + 1) + 1) + (k + k + (k + k) + 1 + (k + k + (k + k) + 1) + 1)) + 1
theorem ratX_sz {k : Nat} {p q r s : Pt} (hp : PSz k p) (hq : PSz k q) (hr : PSz k r) (hs : PSz k s) (hk : 1 ≤ k) : GSz (rsz k) (ratX p q r s) := (gacross_sz hp hq hk).mul (gacross_sz hr hs hk)
theorem ratY_sz {k : Nat} {p q r s : Pt} (hp : PSz k p) (hq : PSz k q) (hr : PSz k r) (hs : PSz k s) (hk : 1 ≤ k) : GSz (rsz k) (ratY p q r s) := (gacross_sz hq hr hk).mul (gacross_sz hs hp hk)
/-- The cross ratio. -/
def prat (p q r s : Pt) (f : Bool) : Pt := pratio (ratX p q r s) (ratY p q r s) f
theorem prat_sz {p q r s : Pt} (hp : FitP p) (hq : FitP q) (hr : FitP r) (hs : FitP s) {f : Bool} (hf : gzero (ratY p q r s) = f) : PSz (dsz (rsz 1024)) (prat p q r s f) := by
  cases f
  · exact (ratX_sz hp.sz hq.sz hr.sz hs.sz (by decide)).div (ratY_sz hp.sz hq.sz hr.sz hs.sz (by decide)) hf
  · trivial
section
variable {p q r s : Pt} (hp : FitP p) (hq : FitP q) (hr : FitP r) (hs : FitP s)
def ratE {f : Bool} (hf : gzero (ratY p q r s) = f) : List (Ev Tryz.prog) :=
  [(sAcross hp.sz.le hq.sz.le).e, (sAcross hr.sz.le hs.sz.le).e, mulE (gacross_sz hp.sz hq.sz (by decide)).le (gacross_sz hr.sz hs.sz (by decide)).le,
    (sAcross hq.sz.le hr.sz.le).e, (sAcross hs.sz.le hp.sz.le).e, mulE (gacross_sz hq.sz hr.sz (by decide)).le (gacross_sz hs.sz hp.sz (by decide)).le, (sZero (z := ratY p q r s) (ratY_sz hp.sz hq.sz hr.sz hs.sz (by decide)).le hf).e]
def ratD (hf : gzero (ratY p q r s) = false) : Ev Tryz.prog := (sDiv (z := ratX p q r s) (w := ratY p q r s) (ratX_sz hp.sz hq.sz hr.sz hs.sz (by decide)).le (ratY_sz hp.sz hq.sz hr.sz hs.sz (by decide)).le hf).e
def sRat4 {f : Bool} (hf : gzero (ratY p q r s) = f) : Spec Tryz.prog :=
  ⟨158, Tryz.call158, [.one (.a (fourC p q r s))], fourT p q r s, .one (plA (fourN p q r s) (prat p q r s f)), plT (prat p q r s f), fun β w hh => by
    cases f
    · exact spec_auto (evs := ratE hp hq hr hs hf ++ [ratD hp hq hr hs hf]) (Ns := [(1, 12), (2, 12)]) (m := 800) Tryz.func158 hmA (fun β => by cases p <;> cases q <;> cases r <;> cases s <;> kernel_rfl) (by cases p <;> cases q <;> cases r <;> cases s <;> kernel_rfl) β w hh
    · exact spec_auto (evs := ratE hp hq hr hs hf) (Ns := [(1, 12), (2, 12)]) (m := 800) Tryz.func158 hmA (fun β => by cases p <;> cases q <;> cases r <;> cases s <;> kernel_rfl) (by cases p <;> cases q <;> cases r <;> cases s <;> kernel_rfl) β w hh, by cases p <;> cases q <;> cases r <;> cases s <;> cases f <;> kernel_rfl⟩
variable {a b c d e f : Bool} (ha : ptB p q = a) (hb : ptB p r = b) (hc : ptB p s = c) (hd : ptB q r = d) (he : ptB q s = e) (hf : ptB r s = f)
theorem gt_lit {n m : Int} {t : Bool} (h : decide (m < n) = t) : Value.bool (decide (m < n)) = .bool t := by rw [h]
noncomputable def sChecked {t : Bool} (ht : decide (2 < mostI a b c d e f) = t) : Spec Tryz.prog :=
  Spec.auto Tryz.call178 (mostA p q r s) [] (.tup [.a (fourC p q r s), svI (bif t then 200 else 0)]) (fourT p q r s)
    [(sOpenOk hp hq hr hs).e, (sMost ha hb hc hd he hf).e, .eqv 16 (.bool (decide (2 < mostI a b c d e f))) (.bool t) (gt_lit ht)] [] 800 Tryz.func178 hmA (by cases p <;> cases q <;> cases r <;> cases s <;> kernel_rfl) (fun β => by cases t <;> cases p <;> cases q <;> cases r <;> cases s <;> kernel_rfl)
noncomputable def sRatioTri (ht : decide (2 < mostI a b c d e f) = true) : Spec Tryz.prog :=
  Spec.auto Tryz.call83 [svP p, svP q, svP r, svP s] [] (svZ 200) []
    [(sChecked hp hq hr hs ha hb hc hd he hf ht).e] [] 800 Tryz.func83 hmA (by kernel_rfl) (fun β => by cases p <;> cases q <;> cases r <;> cases s <;> kernel_rfl)
noncomputable def sRatio0 (ht : decide (2 < mostI a b c d e f) = false) {g : Bool} (hg : gzero (ratY p q r s) = g) : Spec Tryz.prog :=
  Spec.auto Tryz.call83 [svP p, svP q, svP r, svP s] [] (.tup [.a (paC (prat p q r s g)), svI (paK (prat p q r s g))]) []
    [(sChecked hp hq hr hs ha hb hc hd he hf ht).e, (sRat4 hp hq hr hs hg).e, (sToldP (prat p q r s g) (prat_sz hp hq hr hs hg).le).e] [] 800 Tryz.func83 hmA (by cases g <;> kernel_rfl) (fun β => by cases g <;> cases p <;> cases q <;> cases r <;> cases s <;> kernel_rfl)
noncomputable def sRatio (ht : decide (2 < mostI a b c d e f) = false) {g : Bool} (hg : gzero (ratY p q r s) = g) : Spec Tryz.prog :=
  (sRatio0 hp hq hr hs ha hb hc hd he hf ht hg).as [svP p, svP q, svP r, svP s] (svA (prat p q r s g) (paK (prat p q r s g))) rfl (congrArg (fun l => SV.tup [.a l, svI (paK (prat p q r s g))]) (paC_raw (prat p q r s g)))
def sParts0 : Spec Tryz.prog := Spec.auto Tryz.call200 [.one nilA] [] (.tup [.c (.b (.p 0 0)), .c (.b (.p 1 0))]) [ratT 0, ratT 0] [sRatNil.e, sRatNil.e] [(1, 8)] 400 Tryz.func200 hmA (by kernel_rfl) (fun β => by kernel_rfl)
noncomputable def sRound1 (ht : decide (1 < mostI a b c d e f) = true) : Spec Tryz.prog :=
  Spec.auto Tryz.call141 [svP p, svP q, svP r, svP s] [] (.tup [.c (.b (.v (.bool true))), svI 0]) []
    [(sOpenOk hp hq hr hs).e, (sMost ha hb hc hd he hf).e, .eqv 33 (.bool (decide (1 < mostI a b c d e f))) (.bool true) (gt_lit ht)] [] 800 Tryz.func141 hmA (by kernel_rfl) (fun β => by cases p <;> cases q <;> cases r <;> cases s <;> kernel_rfl)
noncomputable def sRoundInf (ht : decide (1 < mostI a b c d e f) = false) (hg : gzero (ratY p q r s) = true) : Spec Tryz.prog :=
  Spec.auto Tryz.call141 [svP p, svP q, svP r, svP s] [] (.tup [.c (.b (.v (.bool true))), svI 0]) []
    [(sOpenOk hp hq hr hs).e, (sMost ha hb hc hd he hf).e, .eqv 33 (.bool (decide (1 < mostI a b c d e f))) (.bool false) (gt_lit ht), (sRat4 hp hq hr hs hg).e, sParts0.e] [] 800 Tryz.func141 hmA (by kernel_rfl) (fun β => by cases p <;> cases q <;> cases r <;> cases s <;> kernel_rfl)
noncomputable def sRoundFin (ht : decide (1 < mostI a b c d e f) = false) (hg : gzero (ratY p q r s) = false) {i : Bool} (hi : decide ((gdiv (ratX p q r s) (ratY p q r s)).im = 0) = i) : Spec Tryz.prog :=
  Spec.auto Tryz.call141 [svP p, svP q, svP r, svP s] [] (.tup [.c (.b (.v (.bool i))), svI 0]) []
    [(sOpenOk hp hq hr hs).e, (sMost ha hb hc hd he hf).e, .eqv 33 (.bool (decide (1 < mostI a b c d e f))) (.bool false) (gt_lit ht), (sRat4 hp hq hr hs hg).e, (sParts (z := gdiv (ratX p q r s) (ratY p q r s)) ((ratX_sz hp.sz hq.sz hr.sz hs.sz (by decide)).div (ratY_sz hp.sz hq.sz hr.sz hs.sz (by decide)) hg).le).e,
      nSign (x := (gdiv (ratX p q r s) (ratY p q r s)).im) rfl, .eqv 47 (.bool ((gdiv (ratX p q r s) (ratY p q r s)).im.num.sign == 0)) (.bool i) (sign_lit hi)] [] 800 Tryz.func141 hmA (by kernel_rfl) (fun β => by cases p <;> cases q <;> cases r <;> cases s <;> kernel_rfl)
end
-- the harmonic one
abbrev gm1 : GQ := gint (-1) 0
theorem sz_lit1 {n : Int} (h : n.natAbs < 256) : Fit (Rat.divInt n 1) := (Sz.small h).fit (by decide)
theorem fit_int {n m : Int} (h : n.natAbs < 256) (k : m.natAbs < 256) : FitG (gint n m) := ⟨sz_lit1 h, sz_lit1 k⟩
theorem fit_m1 : FitP (.fin gm1) := fit_int (by decide) (by decide)
noncomputable def sToldF {z : GQ} (hz : FitG z) : Spec Tryz.prog :=
  (sTold (z := z) ⟨hz.1.sz.le, hz.2.sz.le⟩).as [.one (.a [.b (.p 0 0), .b (.p 1 0)])] (.tup [.a (gC z), svI 0]) rfl (by show SV.tup [.a (gaC z), .c (.b (.v (.int .i64 (gaK z))))] = _; rw [(ga_fit hz).1, (ga_fit hz).2])
noncomputable def harE : List (Ev Tryz.prog) := [(sInt (-1) 0 (by decide) (by decide)).e, (sToldF fit_m1).e]
noncomputable def sHarBad (a b c : Pp) (h : openB c b a a = false) : Spec Tryz.prog :=
  Spec.auto Tryz.call47 [.one (.a a.w.C), .one (.a b.w.C), .one (.a c.w.C)] [] (svZ 2) [] (harE ++ [(sFourthBad a b c (ppt (.fin gm1) fit_m1) h).e]) [] 800 Tryz.func47 hmA (by kernel_rfl) (fun β => by kernel_rfl)
section
variable {a b c : Pt} (ha : FitP a) (hb : FitP b) (hc : FitP c)
noncomputable def sHarTwin {t1 t2 t3 : Bool} (h1 : ptB a b = t1) (h2 : ptB b c = t2) (h3 : ptB c a = t3) (h : (t1 || (t2 || t3)) = true) : Spec Tryz.prog :=
  Spec.auto Tryz.call47 [svP a, svP b, svP c] [] (svZ 200) [] (harE ++ [(sFourthTwin ha hb hc (ppt (.fin gm1) fit_m1) h1 h2 h3 h (k := true) rfl).e]) [] 800 Tryz.func47 hmA (by kernel_rfl) (fun β => by kernel_rfl)
noncomputable def sHar (h1 : a ≠ b) (h2 : b ≠ c) (h3 : c ≠ a) : Spec Tryz.prog :=
  Spec.auto Tryz.call47 [svP a, svP b, svP c] [] (svA (pfourth a b c (.fin gm1)) (paK (pfourth a b c (.fin gm1)))) [] (harE ++ [(sFourthOk ha hb hc h1 h2 h3 fit_m1).e]) [] 800 Tryz.func47 hmA (by kernel_rfl) (fun β => by kernel_rfl)
end
end
/- The statements of layer 10: their helpers, some of the chapter's rows. -/
section
open Go Go.RowKit
set_option maxRecDepth 100000

/-- A map's cells compared. -/
def mV (a a' b b' c c' d d' : R4) (t : Bool) : Array Value := #[.bool a.b, .string a.s, .bool a.c, .string a.t, .bool a'.b, .string a'.s, .bool a'.c, .string a'.t, .bool b.b, .string b.s, .bool b.c, .string b.t, .bool b'.b, .string b'.s, .bool b'.c, .string b'.t,
  .bool c.b, .string c.s, .bool c.c, .string c.t, .bool c'.b, .string c'.s, .bool c'.c, .string c'.t, .bool d.b, .string d.s, .bool d.c, .string d.t, .bool d'.b, .string d'.s, .bool d'.c, .string d'.t, .bool t]
def gV (a a' : R4) : Array Value := #[.bool a.b, .string a.s, .bool a.c, .string a.t, .bool a'.b, .string a'.s, .bool a'.c, .string a'.t]
def geq (x y x' y' : R4) : Bool := x.eq x' && (y.eq y' && true)
theorem eqM {w : World} (n : Nat) (a a' b b' c c' d d' : R4) (t : Bool) (p p' q q' r r' s s' : R4) (u : Bool) : (Op.equalIn (n + 5) 35 (.agg (mV a a' b b' c c' d d' t)) (.agg (mV p p' q q' r r' s s' u))).run Tryz.prog w = .ok (geq a a' p p' && (geq b b' q q' && (geq c c' r r' && (geq d d' s s' && ((t == u) && true))))) w := by
  unfold mV
  rw [run_equalIn_agg _ _ _ _ _ (by kernel_rfl) (by kernel_rfl)]
  refine run_eqF_cons (a := .agg (gV a a')) (b := .agg (gV p p')) (by kernel_rfl) (by kernel_rfl) (by kernel_rfl) (eqG n _ _ _ _) ?_
  refine run_eqF_cons (a := .agg (gV b b')) (b := .agg (gV q q')) (by kernel_rfl) (by kernel_rfl) (by kernel_rfl) (eqG n _ _ _ _) ?_
  refine run_eqF_cons (a := .agg (gV c c')) (b := .agg (gV r r')) (by kernel_rfl) (by kernel_rfl) (by kernel_rfl) (eqG n _ _ _ _) ?_
  refine run_eqF_cons (a := .agg (gV d d')) (b := .agg (gV s s')) (by kernel_rfl) (by kernel_rfl) (by kernel_rfl) (eqG n _ _ _ _) ?_
  refine run_eqF_cons (a := .bool t) (b := .bool u) (by kernel_rfl) (by kernel_rfl) (by kernel_rfl) (run_equalIn_bool' _ _ _ _ _ (by kernel_rfl)) ?_
  kernel_rfl
theorem geq_self (x y : R4) : geq x y x y = true := by
  unfold geq
  rw [R4.eq_iff.2 rfl, R4.eq_iff.2 rfl]; rfl
def eqEvM (a a' b b' c c' d d' : R4) (t : Bool) : Ev Tryz.prog :=
  eqEv 35 (mV a a' b b' c c' d d' t) (mV a a' b b' c c' d d' t) true (by kernel_rfl) (fun w => by
    have h := eqM (w := w) 9995 a a' b b' c c' d d' t a a' b b' c c' d d' t
    rw [geq_self, geq_self, geq_self, geq_self, show (t == t) = true from beq_self_eq_true t] at h
    exact h)
noncomputable def sR (F : Prop) (x : Rat) : R4 := ⟨selB F (decide (x.num < 0)), selS F (mag x.num.natAbs), false, selS F (mag x.den)⟩
/-- A map that is answered is itself. -/
noncomputable def eqMA (m : MQ) : Ev Tryz.prog := eqEvM (sR (FitM m) m.a.re) (sR (FitM m) m.a.im) (sR (FitM m) m.b.re) (sR (FitM m) m.b.im) (sR (FitM m) m.c.re) (sR (FitM m) m.c.im) (sR (FitM m) m.d.re) (sR (FitM m) m.d.im) (selB (FitM m) m.t)
def eqMC (m : MQ) : Ev Tryz.prog := eqEvM (fR m.a.re) (fR m.a.im) (fR m.b.re) (fR m.b.im) (fR m.c.re) (fR m.c.im) (fR m.d.re) (fR m.d.im) m.t
def sNum (k : Int) : Spec Tryz.prog := Spec.auto Tryz.call50 [.one (svI k)] [] (.one (svI k)) [] [] [] 400 Tryz.func50 hmA (by kernel_rfl) (fun β => by kernel_rfl)
def sAt (n m : Int) (hn : -9223372036854775808 ≤ n ∧ n ≤ 9223372036854775807 := by decide) (hm : -9223372036854775808 ≤ m ∧ m ≤ 9223372036854775807 := by decide) : Spec Tryz.prog :=
  Spec.auto Tryz.call54 [.one (svI n), .one (svI m)] [] (svP (.fin (gint n m))) [] [(sR7Int n m hn hm).e] [] 400 Tryz.func54 hmA (by kernel_rfl) (fun β => by kernel_rfl)
abbrev svB (b : Bool) : SV := .one (.c (.b (.v (.bool b))))
def sIs2 : Spec Tryz.prog := Spec.auto Tryz.call49 [svR false r40 r40, .one (svI 2), .one (svI 2), svR false r40 r40] [] (svB true) [] [(sNum 2).e] [] 400 Tryz.func49 hmA (by kernel_rfl) (fun β => by kernel_rfl)
def sIs200 : Spec Tryz.prog := Spec.auto Tryz.call49 [svR false r40 r40, .one (svI 200), .one (svI 200), svR false r40 r40] [] (svB true) [] [(sNum 200).e] [] 400 Tryz.func49 hmA (by kernel_rfl) (fun β => by kernel_rfl)
noncomputable def sIsOk (P : Pt) : Spec Tryz.prog := Spec.auto Tryz.call49 [.one (.a (rawC (paI P) (paX P) (paY P))), .one (svI (paK P)), .one (svI 0), svP P] [] (svB true) []
  [(sR7Told P).e, eqP1 (paI P) (paI P) (paX P) (paY P) (paX P) (paY P) true (rwB_iff.2 ⟨rfl, rfl, rfl⟩), (sNum (paK P)).e, .eqv 34 (.bool (paK P == paK P)) (.bool true) (ieq_self _)] [] 400 Tryz.func49 hmA (by kernel_rfl) (fun β => by kernel_rfl)
-- some rows
abbrev pI (n m : Int) : Pt := .fin (gint n m)
theorem pI_fit {n m : Int} (h : n.natAbs < 256) (k : m.natAbs < 256) : FitP (pI n m) := fit_int h k
theorem pI_ne {n m n' m' : Int} (h : ¬ (n = n' ∧ m = m')) : pI n m ≠ pI n' m' := fun e => h (by
  injection e with e
  injection e with e1 e2
  have k1 := congrArg Rat.num e1
  have k2 := congrArg Rat.num e2
  rw [(divInt_one n).1, (divInt_one n').1] at k1
  rw [(divInt_one m).1, (divInt_one m').1] at k2
  exact ⟨k1, k2⟩)
theorem svA_fit {P Q : Pt} (h : P = Q) (hq : FitP Q) : svA P (paK P) = .tup [.a Q.w.C, svI 0] := by
  subst h
  unfold svA
  rw [(pa_fit hq).1, (pa_fit hq).2.1, (pa_fit hq).2.2, paK_fit hq]
  rfl
theorem raw_fit {P : Pt} (h : FitP P) : (SV.tup [.a P.w.C, svI 0] : SV) = .tup [.a (rawC P.i P.x P.y), svI 0] := rfl
abbrev third : GQ := gdiv (gint (-1) 0) (gint 3 0)
abbrev half : GQ := gdiv (gint 1 0) (gint 2 0)
theorem fit_small {z : GQ} (h1 : z.re.num.natAbs < 256) (h2 : z.re.den < 256) (h3 : z.im.num.natAbs < 256) (h4 : z.im.den < 256) : FitP (.fin z) :=
  ⟨Sz.fit (k := 1) ⟨sz_small h1, sz_small (n := (z.re.den : Int)) (by simpa using h2)⟩ (by decide), Sz.fit (k := 1) ⟨sz_small h3, sz_small (n := (z.im.den : Int)) (by simpa using h4)⟩ (by decide)⟩
theorem fit_third : FitP (.fin third) := fit_small (by decide +kernel) (by decide +kernel) (by decide +kernel) (by decide +kernel)
theorem fit_half : FitP (.fin half) := fit_small (by decide +kernel) (by decide +kernel) (by decide +kernel) (by decide +kernel)
theorem gq_lit {z w : GQ} (h1 : decide (z.re = w.re) = true) (h2 : decide (z.im = w.im) = true) : z = w := GQ.ext2 (of_decide_eq_true h1) (of_decide_eq_true h2)
theorem f00 : FitP (pI 0 0) := pI_fit (by decide) (by decide)
theorem f10 : FitP (pI 1 0) := pI_fit (by decide) (by decide)
theorem f20 : FitP (pI 2 0) := pI_fit (by decide) (by decide)
theorem f30 : FitP (pI 3 0) := pI_fit (by decide) (by decide)
theorem f01 : FitP (pI 0 1) := pI_fit (by decide) (by decide)
theorem f11 : FitP (pI 1 1) := pI_fit (by decide) (by decide)
theorem rat1 : prat (pI 0 0) (pI 1 0) (pI 2 0) (pI 3 0) false = .fin third := congrArg Pt.fin (gq_lit (by kernel_rfl) (by kernel_rfl))
theorem msend_lit {m : MQ} {p : Pt} {P : Pt} {f : Bool} (hf : gzero (msD m p) = f) (h : msend m p f = P) : msend m p (gzero (msD m p)) = P := by rw [hf]; exact h
theorem fou1 : pfourth (pI 0 0) (pI 1 0) .inf (pI 2 0) = .fin half := msend_lit (f := false) (by kernel_rfl) (congrArg Pt.fin (gq_lit (by kernel_rfl) (by kernel_rfl)))
theorem fou2 : pfourth (pI 0 0) (pI 1 0) (pI 2 0) (.fin gm1) = .inf := msend_lit (f := true) (by kernel_rfl) rfl
abbrev mOne : MQ := ⟨gint 1 0, gint 0 0, gint 0 0, gint 1 0, false⟩
theorem mq_ext {m n : MQ} (h1 : m.a = n.a) (h2 : m.b = n.b) (h3 : m.c = n.c) (h4 : m.d = n.d) (h5 : m.t = n.t) : m = n := by cases m; cases n; cases h1; cases h2; cases h3; cases h4; cases h5; rfl
theorem cha1 : pchart .inf (pI 1 0) (pI 0 0) = mOne := mq_ext (gq_lit (by kernel_rfl) (by kernel_rfl)) (gq_lit (by kernel_rfl) (by kernel_rfl)) (gq_lit (by kernel_rfl) (by kernel_rfl)) (gq_lit (by kernel_rfl) (by kernel_rfl)) rfl
theorem fit_one : FitM mOne := ⟨fit_int (by decide) (by decide), fit_int (by decide) (by decide), fit_int (by decide) (by decide), fit_int (by decide) (by decide)⟩
noncomputable def kRat : Spec Tryz.prog :=
  (sRatio f00 f10 f20 f30 (a := false) (b := false) (c := false) (d := false) (e := false) (f := false) (ptB_sym (pI_ne (by decide))) (ptB_sym (pI_ne (by decide))) (ptB_sym (pI_ne (by decide))) (ptB_sym (pI_ne (by decide))) (ptB_sym (pI_ne (by decide))) (ptB_sym (pI_ne (by decide))) (by decide) (g := false) (by kernel_rfl)).as
    [svP (pI 0 0), svP (pI 1 0), svP (pI 2 0), svP (pI 3 0)] (.tup [.a (Pt.fin third).w.C, svI 0]) rfl (svA_fit rat1 fit_third)
noncomputable def kFou : Spec Tryz.prog :=
  (sFourthOk f00 f10 (c := .inf) trivial (pI_ne (by decide)) (fun e => by cases e) (fun e => by cases e) f20).as [svP (pI 0 0), svP (pI 1 0), svP .inf, svP (pI 2 0)] (.tup [.a (Pt.fin half).w.C, svI 0]) rfl (svA_fit fou1 fit_half)
noncomputable def kCha : Spec Tryz.prog :=
  (sChartOk (a := .inf) trivial f10 f00 (fun e => by cases e) (pI_ne (by decide)) (fun e => by cases e)).as [svP .inf, svP (pI 1 0), svP (pI 0 0)] (.tup [.a (mC mOne), svI 0]) rfl (by
    show SV.tup [.a (maC (pchart .inf (pI 1 0) (pI 0 0))), svI (maK (pchart .inf (pI 1 0) (pI 0 0)))] = _
    rw [cha1, (maC_fit fit_one).1, (maC_fit fit_one).2])
noncomputable def kRou : Spec Tryz.prog :=
  sRoundFin f00 f10 f01 f11 (a := false) (b := false) (c := false) (d := false) (e := false) (f := false) (ptB_sym (pI_ne (by decide))) (ptB_sym (pI_ne (by decide))) (ptB_sym (pI_ne (by decide))) (ptB_sym (pI_ne (by decide))) (ptB_sym (pI_ne (by decide))) (ptB_sym (pI_ne (by decide))) (by decide) (by kernel_rfl) (i := true) (by kernel_rfl)
noncomputable def kHar : Spec Tryz.prog :=
  (sHar f00 f10 f20 (pI_ne (by decide)) (pI_ne (by decide)) (pI_ne (by decide))).as [svP (pI 0 0), svP (pI 1 0), svP (pI 2 0)] (.tup [.a Pt.inf.w.C, svI 0]) rfl (svA_fit fou2 trivial)
noncomputable def kTri : Spec Tryz.prog :=
  sRatioTri f00 f00 f00 f10 (a := true) (b := true) (c := false) (d := true) (e := false) (f := false) (ptB_self _) (ptB_self _) (ptB_sym (pI_ne (by decide))) (ptB_self _) (ptB_sym (pI_ne (by decide))) (ptB_sym (pI_ne (by decide))) (by decide)
theorem no_frac : ¬ IsFrac (rawV false false ⟨#[]⟩ ⟨#[]⟩) := fun h => by
  unfold rawV at h
  rw [isFrac_doc] at h
  exact absurd h.2.2.2.1 (by decide)
def noPt : Pp := .fin (.no false false ⟨#[]⟩ ⟨#[]⟩ no_frac (by decide) (by decide)) (.no false false ⟨#[]⟩ ⟨#[]⟩ no_frac (by decide) (by decide))
noncomputable def kBad : Spec Tryz.prog := sChartBad noPt noPt (ppt (pI 1 0) f10) rfl
def sU8 : Spec Tryz.prog := Spec.auto Tryz.call114 [] [] (svG (gint 1 0)) [] [(sR4Int 1 0).e] [] 400 Tryz.func114 hmA (by kernel_rfl) (fun β => by kernel_rfl)
def sZ8 : Spec Tryz.prog := Spec.auto Tryz.call115 [] [] (svG (gint 0 0)) [] [(sR4Int 0 0).e] [] 400 Tryz.func115 hmA (by kernel_rfl) (fun β => by kernel_rfl)
def sOne8 : Spec Tryz.prog := Spec.auto Tryz.call43 [] [] (svM mOne) [] [(sU8).e, (sZ8).e, (sZ8).e, (sU8).e] [] 400 Tryz.func43 hmA (by kernel_rfl) (fun β => by kernel_rfl)
noncomputable def sKnown10 : Spec Tryz.prog :=
  Spec.auto Tryz.call44 [] [] (svB true) []
    [(sAt 0 0).e, (sAt 1 0).e, (sAt 2 0).e, (sAt 3 0).e, kRat.e,
     (sAt 0 0).e, (sAt 1 0).e, sR7Inf.e, (sAt 2 0).e, kFou.e,
     sR7Inf.e, (sAt 1 0).e, (sAt 0 0).e, kCha.e,
     (sAt 0 0).e, (sAt 1 0).e, (sAt 0 1).e, (sAt 1 1).e, kRou.e,
     (sAt 0 0).e, (sAt 1 0).e, (sAt 2 0).e, kHar.e,
     (sAt 0 0).e, (sAt 0 0).e, (sAt 0 0).e, (sAt 1 0).e, kTri.e,
     (sAt 1 0).e, kBad.e,
     (sR4Int (-1) 0).e, (sR4Int 3 0).e, (sR4Over (z := gint (-1) 0) (w := gint 3 0) (GSz.int (by decide) (by decide)).le (GSz.int (by decide) (by decide)).le (by kernel_rfl)).e,
     (sR4Int 1 0).e, (sR4Int 2 0).e, (sR4Over (z := gint 1 0) (w := gint 2 0) (GSz.int (by decide) (by decide)).le (GSz.int (by decide) (by decide)).le (by kernel_rfl)).e,
     (sR7Of third).e, eqP2 (ptB_self (.fin third)), (sNum 0).e, (sR7Of half).e, eqP2 (ptB_self (.fin half)), (sNum 0).e, sOne8.e, eqMC mOne, (sNum 0).e, (sNum 0).e, sR7Inf.e, eqP2 (ptB_self .inf), (sNum 0).e, (sNum 200).e, (sNum 2).e]
    [(10, 59)] 3000 Tryz.func44 hmA (by kernel_rfl) (fun β => by kernel_rfl)
end
/- CrossFourth, gone through. -/
section
open Go Go.RowKit
set_option maxRecDepth 100000

theorem big_le {k : Nat} {s : ByteArray} (h : big k s = false) : s.size ≤ k := by
  have := of_decide_eq_false h
  omega
theorem sm_parts {k : Nat} {x y : R4} (h : smB k x y = true) : (x.s.size ≤ k ∧ x.t.size ≤ k) ∧ y.s.size ≤ k ∧ y.t.size ≤ k := by
  unfold smB at h
  simp only [Bool.not_eq_true', Bool.or_eq_false_iff] at h
  exact ⟨⟨big_le h.1, big_le h.2.1⟩, big_le h.2.2.1, big_le h.2.2.2⟩
theorem sm_sz {k : Nat} {p : Pt} (h : p.w.sm k = true) : PSz k p := by
  cases p
  · trivial
  · obtain ⟨⟨h1, h2⟩, h3, h4⟩ := sm_parts h
    exact ⟨⟨h1, by rw [sz_nat]; exact h2⟩, ⟨h3, by rw [sz_nat]; exact h4⟩⟩
def sR7AllOk {a b c : Pt} (ha : FitP a) (hb : FitP b) (hc : FitP c) : BSpec Tryz.prog :=
  ⟨24, Tryz.call24, [.one (.c (.b (.s 0 0 3 3)))], a.w.C ++ b.w.C ++ c.w.C, 29, .bool true, fun β w hh => all3_ok (ppt a ha) (ppt b hb) (ppt c hc) (by rw [ppt_B, ppt_B, ppt_B]; rfl) β w (by rw [ppt_w, ppt_w, ppt_w]; exact hh), by kernel_rfl, fun _ => rfl⟩
def sR7MayOk {a : Pt} (ha : FitP a) : Spec Tryz.prog :=
  (sR7May (ppt a ha) (b := true) (ppt_B a ha)).as [svP a] (svB true) (by cases a <;> rfl) rfl
abbrev FOU : List (Nat × Nat) := [(1, 4014003013002012015), (18, 20), (22, 12)]
abbrev fouA (p q r s : Rw) : List SV := [.one (.a (p.C ++ q.C ++ r.C ++ s.C))]
abbrev smA (p q r s : Rw) (b : Bool) : Prop := (p.sm 60 && (q.sm 60 && (r.sm 60 && s.sm 60))) = b
noncomputable def fou1w (p q r s : Rw) (h : smA p q r s false) : Spec Tryz.prog :=
  Spec.auto Tryz.call7 (fouA p q r s) [] (svB true) [] [(sR7Small 60 p q r s h).e, sKnown10.e] FOU 3000 Tryz.func7 hmA (by kernel_rfl) (fun β => by kernel_rfl)
theorem all_open {a b c : Bool} (h : (c && (b && (a && a))) = false) : (a && (b && c)) = false := by cases a <;> cases b <;> cases c <;> first | rfl | cases h
noncomputable def fou2w (p q r s : Pp) (hs : smA p.w q.w r.w s.w true) (h : openB r q p p = false) {k : Bool} (hk : s.B = k) : Spec Tryz.prog :=
  Spec.auto Tryz.call7 (fouA p.w q.w r.w s.w) [] (svB true) []
    [(sR7Small 60 p.w q.w r.w s.w hs).e, (sFourthBad p q r s h).e, (sChartBad p q r h).e, (sHarBad p q r h).e, (sR7All p q r (b := false) (all_open h)).e, (sR7May s hk).e, sIs2.e, (sNum 2).e, sIs2.e, sKnown10.e]
    FOU 3000 Tryz.func7 hmA (by kernel_rfl) (fun β => by cases k <;> kernel_rfl)
section
variable {a b c : Pt} (ha : FitP a) (hb : FitP b) (hc : FitP c)
noncomputable def fou3w (s : Pp) (hs : smA a.w b.w c.w s.w true) {t1 t2 t3 : Bool} (h1 : ptB a b = t1) (h2 : ptB b c = t2) (h3 : ptB c a = t3) (h : (t1 || (t2 || t3)) = true) {k : Bool} (hk : s.B = k) : Spec Tryz.prog :=
  Spec.auto Tryz.call7 (fouA a.w b.w c.w s.w) [] (svB true) []
    [(sR7Small 60 a.w b.w c.w s.w hs).e, (sFourthTwin ha hb hc s h1 h2 h3 h hk).e, (sChartTwin ha hb hc h1 h2 h3 h).e, (sHarTwin ha hb hc h1 h2 h3 h).e, (sR7AllOk ha hb hc).e,
      ((sR10Twins a.w b.w c.w h1 h2 (ptB_comm' h3)).as [svP a, svP b, svP c] (svB true) rfl (congrArg svB h)).e, (sR7May s hk).e, (bif k then sIs200 else sIs2).e, (sNum 200).e, sIs200.e, sKnown10.e]
    FOU 3000 Tryz.func7 hmA (by kernel_rfl) (fun β => by cases k <;> kernel_rfl)
variable (h1 : a ≠ b) (h2 : b ≠ c) (h3 : c ≠ a) (za : PSz KQ a) (zb : PSz KQ b) (zc : PSz KQ c)
theorem sz_m1 : PSz KQ (.fin gm1) := (GSz.int (by decide) (by decide)).mono (by decide)
noncomputable def fouE (s : Rw) (hs : smA a.w b.w c.w s true) (F : Spec Tryz.prog) : List (Ev Tryz.prog) :=
  [(sR7Small 60 a.w b.w c.w s hs).e, F.e, (sChartOk ha hb hc h1 h2 h3).e, (sHar ha hb hc h1 h2 h3).e, (sR7AllOk ha hb hc).e,
    (sR10Twins a.w b.w c.w (t1 := false) (t2 := false) (t3 := false) (ptB_sym h1) (ptB_sym h2) (ptB_sym (Ne.symm h3))).e, (sR10Chart1 za zb zc h1 h2 h3).e, (sR8Told (pchart a b c)).e, eqMA (pchart a b c), (sNum (maK (pchart a b c))).e,
    .eqv 114 (.bool (maK (pchart a b c) != maK (pchart a b c))) (.bool false) (ine_self _), (sAt (-1) 0).e, (sR10Fourth za zb zc sz_m1 h1 h2 h3).e, (sIsOk (pfourth a b c (.fin gm1))).e]
noncomputable def fou4w (s : Pp) (hs : smA a.w b.w c.w s.w true) (hk : s.B = false) : Spec Tryz.prog :=
  Spec.auto Tryz.call7 (fouA a.w b.w c.w s.w) [] (svB true) [] (fouE ha hb hc h1 h2 h3 za zb zc s.w hs (sFourthNo ha hb hc h1 h2 h3 s hk) ++ [(sR7May s hk).e, sIs2.e, sKnown10.e])
    FOU 3000 Tryz.func7 hmA (by kernel_rfl) (fun β => by kernel_rfl)
noncomputable def fou5w {s : Pt} (hs : smA a.w b.w c.w s.w true) (hk : FitP s) (zs : PSz KQ s) : Spec Tryz.prog :=
  Spec.auto Tryz.call7 (fouA a.w b.w c.w s.w) [] (svB true) [] (fouE ha hb hc h1 h2 h3 za zb zc s.w hs (sFourthOk ha hb hc h1 h2 h3 hk) ++ [(sR7MayOk hk).e, (sR10Fourth za zb zc zs h1 h2 h3).e, (sIsOk (pfourth a b c s)).e, sKnown10.e])
    FOU 3000 Tryz.func7 hmA (by kernel_rfl) (fun β => by kernel_rfl)
end
def vR (i : Bool) (x y : R4) : List Value := [.bool i, .bool x.b, .string x.s, .bool x.c, .string x.t, .bool y.b, .string y.s, .bool y.c, .string y.t]
theorem spec_true {P : Program} (S : Spec P) (ho : S.obs = []) (hr : S.res = svB true) (w : World) : Calls P S.f (S.args.map (SV.den idE)).toArray w fun e w' => e = .returned (.bool true) ∧ Below w.heap.size w w' := by
  refine (S.ok idE w (by rw [ho]; intro k t h; simp at h)).mono ?_
  rintro e w' ⟨xs, _, _, rfl, _, hb⟩
  exact ⟨by rw [hr]; rfl, hb⟩
theorem CrossFourth_walk (p q r s : Rw) (hp : p.ok) (hq : q.ok) (hr : r.ok) (hs : s.ok) (w : World) :
    Calls Tryz.prog 7 #[.agg (vR p.i p.x p.y ++ vR q.i q.x q.y ++ vR r.i r.x r.y ++ vR s.i s.x s.y).toArray] w fun e w' => e = .returned (.bool true) ∧ Below w.heap.size w w' := by
  cases hsm : (p.sm 60 && (q.sm 60 && (r.sm 60 && s.sm 60))) with
  | false => exact spec_true (fou1w p q r s hsm) rfl rfl w
  | true =>
    obtain ⟨p', rfl⟩ := pp_of p hp
    obtain ⟨q', rfl⟩ := pp_of q hq
    obtain ⟨r', rfl⟩ := pp_of r hr
    obtain ⟨s', rfl⟩ := pp_of s hs
    cases ho : openB r' q' p' p' with
    | false => exact spec_true (fou2w p' q' r' s' hsm ho rfl) rfl rfl w
    | true =>
      have ho2 : r'.B = true ∧ q'.B = true ∧ p'.B = true := by
        unfold openB at ho
        simp only [Bool.and_eq_true] at ho
        exact ⟨ho.1, ho.2.1, ho.2.2.1⟩
      obtain ⟨a, ha, rfl⟩ := Pp.good ho2.2.2
      obtain ⟨b, hb, rfl⟩ := Pp.good ho2.2.1
      obtain ⟨c, hc, rfl⟩ := Pp.good ho2.1
      rw [ppt_w, ppt_w, ppt_w] at hsm ⊢
      have hz := hsm
      simp only [Bool.and_eq_true] at hz
      cases h : (ptB a b || (ptB b c || ptB c a)) with
      | true => exact spec_true (fou3w ha hb hc s' hsm rfl rfl rfl h rfl) rfl rfl w
      | false =>
        simp only [Bool.or_eq_false_iff] at h
        have h1 := ptB_ne h.1
        have h2 := ptB_ne h.2.1
        have h3 := ptB_ne h.2.2
        have za : PSz KQ a := (sm_sz hz.1).le
        have zb : PSz KQ b := (sm_sz hz.2.1).le
        have zc : PSz KQ c := (sm_sz hz.2.2.1).le
        cases hk : s'.B with
        | false => exact spec_true (fou4w ha hb hc h1 h2 h3 za zb zc s' hsm hk) rfl rfl w
        | true =>
          obtain ⟨d, hd, rfl⟩ := Pp.good hk
          rw [ppt_w] at hsm hz ⊢
          exact spec_true (fou5w ha hb hc h1 h2 h3 za zb zc hsm hd (sm_sz hz.2.2.2).le) rfl rfl w
end
/- A fraction that came in, opened. -/
section
open Go.ChangeShapes Go.WideShapes Go.ChangeAt Go.RowKit

theorem cellsOf_bool : Tryz.prog.cellsOf 4 = 1 := by kernel_rfl
theorem cellsOf_string : Tryz.prog.cellsOf 9 = 1 := by kernel_rfl
theorem cellsOf_whole : Tryz.prog.cellsOf 23 = 2 := by kernel_rfl
theorem cellsOf_frac : Tryz.prog.cellsOf 25 = 4 := by kernel_rfl
section
variable {H : Type} {enc : TypeId × Value → H} {w : World} {base : Nat} {spare : Nat → Bool} {held : Bool}
set_option maxRecDepth 100000 in
theorem trod_whole {fuel : Nat} {cs : List Value} {x : DataW H × List MemPlace} (h : DataW.trod enc Tryz.prog w base spare held fuel 23 cs = some x) :
    ∃ (b : Bool) (s : ByteArray), cs = [.bool b, .string s] ∧ s.size ≤ maxLen := by
  obtain ⟨xs, n, rfl, _, hlen, hxl, hf⟩ := DataW.trod_struct Tryz.underlying23 h
  rw [cellsOf_whole] at hlen
  have hx0 : xs[0]? = some (xs[0]'(by rw [hxl]; decide)) := List.getElem?_eq_getElem _
  have hx1 : xs[1]? = some (xs[1]'(by rw [hxl]; decide)) := List.getElem?_eq_getElem _
  have h0 : DataW.trod enc Tryz.prog w base spare held n 4 ((cs.drop 0).take (Tryz.prog.cellsOf 4)) = some _ := (hf 0 _ rfl).trans hx0
  have h1 : DataW.trod enc Tryz.prog w base spare held n 9 ((cs.drop 1).take (Tryz.prog.cellsOf 9)) = some _ := (hf 1 _ rfl).trans hx1
  rw [cellsOf_bool] at h0
  rw [cellsOf_string] at h1
  match cs, hlen with
  | [a, b], _ =>
    obtain ⟨p, e0, _⟩ := DataW.trod_bool Tryz.underlying4 h0
    obtain ⟨s, e1, _, hs⟩ := DataW.trod_string Tryz.underlying9 h1
    cases e0
    cases e1
    exact ⟨p, s, rfl, hs⟩
set_option maxRecDepth 100000 in
theorem trod_frac {fuel : Nat} {cs : List Value} {x : DataW H × List MemPlace} (h : DataW.trod enc Tryz.prog w base spare held fuel 25 cs = some x) :
    ∃ (b c : Bool) (s t : ByteArray), cs = [.bool b, .string s, .bool c, .string t] ∧ s.size ≤ maxLen ∧ t.size ≤ maxLen := by
  obtain ⟨xs, n, rfl, _, hlen, hxl, hf⟩ := DataW.trod_struct Tryz.underlying25 h
  rw [cellsOf_frac] at hlen
  have hx0 : xs[0]? = some (xs[0]'(by rw [hxl]; decide)) := List.getElem?_eq_getElem _
  have hx1 : xs[1]? = some (xs[1]'(by rw [hxl]; decide)) := List.getElem?_eq_getElem _
  have h0 : DataW.trod enc Tryz.prog w base spare held n 23 ((cs.drop 0).take (Tryz.prog.cellsOf 23)) = some _ := (hf 0 _ rfl).trans hx0
  have h1 : DataW.trod enc Tryz.prog w base spare held n 23 ((cs.drop 2).take (Tryz.prog.cellsOf 23)) = some _ := (hf 1 _ rfl).trans hx1
  rw [cellsOf_whole] at h0 h1
  match cs, hlen with
  | [a, b, c, d], _ =>
    obtain ⟨p, s, e0, hs⟩ := trod_whole h0
    obtain ⟨q, t, e1, ht⟩ := trod_whole h1
    cases e0
    cases e1
    exact ⟨p, q, s, t, rfl, hs, ht⟩
set_option maxRecDepth 100000 in
theorem open_whole {r : Reach} {b0 : Nat} {v : Value} {d : DataW H} {p : List MemPlace} (hv : Value.okWide Tryz.prog w r b0 23 v) (h : DataW.Trod enc Tryz.prog w base spare held 23 v d p) :
    ∃ (b : Bool) (s : ByteArray), v = .agg #[.bool b, .string s] ∧ s.size ≤ maxLen := by
  obtain ⟨cs, rfl, hsz⟩ := okWide_struct Tryz.underlying23 hv
  obtain ⟨fuel, hf⟩ := h
  obtain ⟨b, s, e, hs⟩ := trod_whole hf
  refine ⟨b, s, ?_, hs⟩
  obtain ⟨l⟩ := cs
  simp only [Value.cells] at e
  rw [← e]
set_option maxRecDepth 100000 in
theorem open_frac {r : Reach} {b0 : Nat} {v : Value} {d : DataW H} {p : List MemPlace} (hv : Value.okWide Tryz.prog w r b0 25 v) (h : DataW.Trod enc Tryz.prog w base spare held 25 v d p) :
    ∃ (b c : Bool) (s t : ByteArray), v = .agg #[.bool b, .string s, .bool c, .string t] ∧ s.size ≤ maxLen ∧ t.size ≤ maxLen := by
  obtain ⟨cs, rfl, hsz⟩ := okWide_struct Tryz.underlying25 hv
  obtain ⟨fuel, hf⟩ := h
  obtain ⟨b, c, s, t, e, hs, ht⟩ := trod_frac hf
  refine ⟨b, c, s, t, ?_, hs, ht⟩
  obtain ⟨l⟩ := cs
  simp only [Value.cells] at e
  rw [← e]
end
end
/- Numbers, points, maps that came in, opened. -/
section
open Go Go.ChangeShapes Go.WideShapes Go.ChangeAt Go.RowKit

theorem cellsOf_gauss : Tryz.prog.cellsOf 27 = 8 := by kernel_rfl
theorem cellsOf_point : Tryz.prog.cellsOf 29 = 9 := by kernel_rfl
theorem cellsOf_mob : Tryz.prog.cellsOf 35 = 33 := by kernel_rfl
theorem cellsOf_p4 : Tryz.prog.cellsOf 68 = 36 := by kernel_rfl
theorem cellsOf_p3 : Tryz.prog.cellsOf 30 = 27 := by kernel_rfl
theorem okWide_array {P : Program} {w : World} {r : Reach} {base : Nat} {t e : TypeId} {v : Value} {n : Nat} (ht : P.underlying t = some (.array n e)) (h : Value.okWide P w r base t v) : ∃ cs, v = .agg cs ∧ cs.size = P.cellsOf t := by
  simp only [Value.okWide, ht] at h
  obtain ⟨cs, h1, h2, _⟩ := h
  exact ⟨cs, h1, h2⟩
theorem chunk {α : Type} (cs : List α) (a b : Nat) : cs.drop a = (cs.drop a).take b ++ cs.drop (a + b) := by
  rw [← List.drop_drop, List.take_append_drop]
def R4.ok (x : R4) : Prop := x.s.size ≤ maxLen ∧ x.t.size ≤ maxLen
section
variable {H : Type} {enc : TypeId × Value → H} {w : World} {base : Nat} {spare : Nat → Bool} {held : Bool}
theorem trod_r4 {fuel : Nat} {cs : List Value} {x : DataW H × List MemPlace} (h : DataW.trod enc Tryz.prog w base spare held fuel 25 cs = some x) : ∃ r : R4, cs = r.V ∧ r.ok := by
  obtain ⟨b, c, s, t, e, h1, h2⟩ := trod_frac h
  exact ⟨⟨b, s, c, t⟩, e, h1, h2⟩
set_option maxRecDepth 100000 in
theorem trod_gauss {fuel : Nat} {cs : List Value} {x : DataW H × List MemPlace} (h : DataW.trod enc Tryz.prog w base spare held fuel 27 cs = some x) : ∃ r s : R4, cs = r.V ++ s.V ∧ r.ok ∧ s.ok := by
  obtain ⟨xs, n, rfl, _, hlen, hxl, hf⟩ := DataW.trod_struct Tryz.underlying27 h
  rw [cellsOf_gauss] at hlen
  have hx0 : xs[0]? = some (xs[0]'(by rw [hxl]; decide)) := List.getElem?_eq_getElem _
  have hx1 : xs[1]? = some (xs[1]'(by rw [hxl]; decide)) := List.getElem?_eq_getElem _
  have h0 : DataW.trod enc Tryz.prog w base spare held n 25 ((cs.drop 0).take (Tryz.prog.cellsOf 25)) = some _ := (hf 0 _ rfl).trans hx0
  have h1 : DataW.trod enc Tryz.prog w base spare held n 25 ((cs.drop 4).take (Tryz.prog.cellsOf 25)) = some _ := (hf 1 _ rfl).trans hx1
  rw [cellsOf_frac] at h0 h1
  obtain ⟨r, e0, k0⟩ := trod_r4 h0
  obtain ⟨s, e1, k1⟩ := trod_r4 h1
  refine ⟨r, s, ?_, k0, k1⟩
  have := chunk cs 0 4
  rw [e0, List.drop_zero] at this
  rw [this, chunk cs (0 + 4) 4, e1, List.drop_of_length_le (by omega), List.append_nil]
set_option maxRecDepth 100000 in
theorem trod_point {fuel : Nat} {cs : List Value} {x : DataW H × List MemPlace} (h : DataW.trod enc Tryz.prog w base spare held fuel 29 cs = some x) : ∃ (i : Bool) (r s : R4), cs = .bool i :: (r.V ++ s.V) ∧ r.ok ∧ s.ok := by
  obtain ⟨xs, n, rfl, _, hlen, hxl, hf⟩ := DataW.trod_struct Tryz.underlying29 h
  rw [cellsOf_point] at hlen
  have hx0 : xs[0]? = some (xs[0]'(by rw [hxl]; decide)) := List.getElem?_eq_getElem _
  have hx1 : xs[1]? = some (xs[1]'(by rw [hxl]; decide)) := List.getElem?_eq_getElem _
  have h0 : DataW.trod enc Tryz.prog w base spare held n 4 ((cs.drop 0).take (Tryz.prog.cellsOf 4)) = some _ := (hf 0 _ rfl).trans hx0
  have h1 : DataW.trod enc Tryz.prog w base spare held n 27 ((cs.drop 1).take (Tryz.prog.cellsOf 27)) = some _ := (hf 1 _ rfl).trans hx1
  rw [cellsOf_bool] at h0
  rw [cellsOf_gauss] at h1
  obtain ⟨r, s, e1, k1⟩ := trod_gauss h1
  have e3 : cs.drop 1 = r.V ++ s.V := by
    have := chunk cs 1 8
    rw [e1] at this
    rw [this, List.drop_of_length_le (show cs.length ≤ 1 + 8 by omega), List.append_nil]
  have e2 : cs = cs.take 1 ++ (r.V ++ s.V) := by rw [← e3, List.take_append_drop]
  match hc : (cs.take 1), (show (cs.take 1).length = 1 by rw [List.length_take]; omega) with
  | [a], _ =>
    rw [List.drop_zero, hc] at h0
    obtain ⟨i, e0, _⟩ := DataW.trod_bool Tryz.underlying4 h0
    refine ⟨i, r, s, ?_, k1⟩
    rw [hc] at e2
    rw [e2]
    cases e0
    rfl
def Rw.V (r : Bool × R4 × R4) : List Value := .bool r.1 :: (r.2.1.V ++ r.2.2.V)
set_option maxRecDepth 100000 in
theorem open_p4 {r : Reach} {b0 : Nat} {v : Value} {d : DataW H} {p : List MemPlace} (hv : Value.okWide Tryz.prog w r b0 68 v) (h : DataW.Trod enc Tryz.prog w base spare held 68 v d p) :
    ∃ (i j k l : Bool) (a b c d e f g h : R4), v = .agg ((.bool i :: (a.V ++ b.V)) ++ (.bool j :: (c.V ++ d.V)) ++ (.bool k :: (e.V ++ f.V)) ++ (.bool l :: (g.V ++ h.V))).toArray ∧ (a.ok ∧ b.ok) ∧ (c.ok ∧ d.ok) ∧ (e.ok ∧ f.ok) ∧ g.ok ∧ h.ok := by
  obtain ⟨cs, rfl, hsz⟩ := okWide_array Tryz.underlying68 hv
  obtain ⟨fuel, hf⟩ := h
  obtain ⟨l⟩ := cs
  obtain ⟨xs, n, rfl, _, hlen, hxl, hg⟩ := DataW.trod_array Tryz.underlying68 hf
  simp only [Value.cells] at hlen hg
  rw [cellsOf_p4] at hlen
  rw [cellsOf_point] at hg
  have key : ∀ i, i < 4 → ∃ (j : Bool) (r s : R4), (l.drop (i * 9)).take 9 = .bool j :: (r.V ++ s.V) ∧ r.ok ∧ s.ok := fun i hi => by
    have hx : xs[i]? = some (xs[i]'(by rw [hxl]; exact hi)) := List.getElem?_eq_getElem _
    exact trod_point ((hg i hi).trans hx)
  obtain ⟨i0, a0, b0, e0, k0⟩ := key 0 (by decide)
  obtain ⟨i1, a1, b1, e1, k1⟩ := key 1 (by decide)
  obtain ⟨i2, a2, b2, e2, k2⟩ := key 2 (by decide)
  obtain ⟨i3, a3, b3, e3, k3⟩ := key 3 (by decide)
  refine ⟨i0, i1, i2, i3, a0, b0, a1, b1, a2, b2, a3, b3, ?_, k0, k1, k2, k3⟩
  have c0 := chunk l (0 * 9) 9
  have c1 := chunk l (1 * 9) 9
  have c2 := chunk l (2 * 9) 9
  have c3 := chunk l (3 * 9) 9
  rw [e3, List.drop_of_length_le (show l.length ≤ 3 * 9 + 9 by omega), List.append_nil] at c3
  rw [e2, show 2 * 9 + 9 = 3 * 9 by rfl, c3] at c2
  rw [e1, show 1 * 9 + 9 = 2 * 9 by rfl, c2] at c1
  rw [e0, show 0 * 9 + 9 = 1 * 9 by rfl, c1, show 0 * 9 = 0 by rfl, List.drop_zero] at c0
  rw [c0]
  simp only [List.append_assoc, List.cons_append]
end
end
end Go.Proofs.YtiolbdleihiocaaGreat
