/- Rs7, Rs10, Nrm, EyF, MoA, CrA, EqM, CrB, CrC, CrD, L10, CrE, CyA, CyB, RsA, Yd. -/
import Derived.Test.YtiolbdleihiocaaGreatPk14
set_option linter.unnecessarySimpa false
set_option linter.unusedVariables false
set_option linter.unusedSimpArgs false
section
namespace Go.Proofs.YtiolbdleihiocaaGreat
open Go Go.RowKit
set_option maxRecDepth 100000
structure BSpec (P : Program) where
  f : FuncId
  en : Enters P f
  args : List SV
  cs : List Lf
  t : TypeId
  r : Value
  ok : ∀ β w, (Ob.box cs t).holds β w (β 0) → Calls P f (args.map (SV.den β)).toArray w fun e w' => e = .returned r ∧ Below w.heap.size w w'
  cl : (cs.all (Lf.of fun _ => false) && args.all (SV.of fun k => Nat.beq k 0)) = true
  hr : ∀ β, (tag r).den β = r
def bkOf : List SV → Nat
  | [] => 0
  | .one (.c (.b (.s k _ _ _))) :: _ => k
  | _ :: r => bkOf r
theorem cells_closed {β β' : Env} {cs : List Lf} (h : cs.all (Lf.of fun _ => false) = true) : cs.map (Lf.den β) = cs.map (Lf.den β') :=
  List.map_congr_left fun x hx => Lf.den_congr (q := fun _ => false) (fun k hk => by cases hk) x (List.all_eq_true.1 h x hx)
def BSpec.e {P : Program} (S : BSpec P) : Ev P := .dyn (fun o _ _ => isCallB o) fun _ xs ob => lit (bkOf xs) fun i =>
  .call S.f S.en (fun β => (S.args.map (SV.den fun _ => β i)).toArray) [(i, .box S.cs S.t)] 0 (tag S.r) [] (fun β w h => of_pure0 (by
    have hc := S.cl
    rw [Bool.and_eq_true] at hc
    refine S.ok (fun _ => β i) w ?_
    have h1 : w.heap[β i]? = some (.cells (S.cs.map (Lf.den β)).toArray S.t (0, 0)) := h _ (List.mem_singleton.2 rfl)
    show w.heap[β i]? = some (.cells (S.cs.map (Lf.den fun _ => β i)).toArray S.t (0, 0))
    rw [cells_closed (β' := β) hc.1]
    exact h1) S.hr)
theorem bspec_ok {P : Program} {f : FuncId} {fn : Func} {args : List SV} {cs : List Lf} {t : TypeId} {r : Value} (evs : List (Ev P)) (Ns : List (Nat × Nat)) (m : Nat) (hf : P.funcs[f]? = some fn) (hm : P.follows .mixedOrders = true)
    (h : ∀ β, (allS P fn args [.box cs t] evs Ns m (tag r) [] β).map Prod.fst = (allS P fn args [.box cs t] evs Ns m (tag r) [] β).map Prod.snd)
    (hB : (args.all (SV.of fun k => Nat.blt k 1) && [Ob.box cs t].all fun x => x.of (fun k => Nat.blt k 1) && x.own) = true) (hr : ∀ β, (tag r).den β = r) (β : Env) (w : World) (hh : (Ob.box cs t).holds β w (β 0)) :
    Calls P f (args.map (SV.den β)).toArray w fun e w' => e = .returned r ∧ Below w.heap.size w w' := by
  rw [Bool.and_eq_true] at hB
  refine (sx (P := P) args [.box cs t] evs Ns m (tag r) [] hf hm (fun β => ok_of_maps (h β)) hB.1 hB.2 β w (fun k hk => ?_) (fun k o ho => ?_)).mono ?_
  · obtain rfl : k = 0 := by simp only [List.length_singleton] at hk; omega
    exact heap_lt hh
  · cases k with
    | zero => simp only [List.getElem?_cons_zero] at ho; obtain rfl := Option.some.inj ho; exact hh
    | succ k => simp at ho
  · rintro e w' ⟨β', q, obj, e1, rfl, e2, e3, e4, e5, g⟩
    exact ⟨by rw [hr], g.bel⟩
def big (k : Nat) (s : ByteArray) : Bool := decide ((k : Int) < (s.size : Int))
def smB (k : Nat) (x y : R4) : Bool := !(big k x.s || (big k x.t || (big k y.s || big k y.t)))
theorem big_lit {k : Nat} {s : ByteArray} {r : Bool} (h : big k s = r) : Value.bool (decide ((k : Int) < (s.size : Int))) = .bool r := by rw [← h]; rfl
def evBig (k : Nat) (s : ByteArray) (d : Nat) (r : Bool) (h : big k s = r) : Ev Tryz.prog := .eqv d (.bool (decide ((k : Int) < (s.size : Int)))) (.bool r) (big_lit h)
theorem small4_ok (k : Nat) (x y : R4) {b : Bool} (hb : smB k x y = b) (β : Env) (w : World) (hh : (Ob.box (x.L ++ y.L) 27).holds β w (β 0)) :
    Calls Tryz.prog 62 (([.one (.c (.b (.v (.int .i64 (k : Int))))), .one (.c (.b (.s 0 0 1 1)))] : List SV).map (SV.den β)).toArray w fun e w' => e = .returned (.bool b) ∧ Below w.heap.size w w' := by
  unfold smB at hb
  cases h1 : big k x.s with
  | true =>
    obtain rfl : b = false := by rw [← hb, h1]; rfl
    exact bspec_ok [evBig k x.s 23 true h1] [] 800 Tryz.func62 hmA (fun β => by kernel_rfl) (by kernel_rfl) (fun β => rfl) β w hh
  | false => cases h2 : big k x.t with
  | true =>
    obtain rfl : b = false := by rw [← hb, h1, h2]; rfl
    exact bspec_ok [evBig k x.s 23 false h1, evBig k x.t 31 true h2] [] 800 Tryz.func62 hmA (fun β => by kernel_rfl) (by kernel_rfl) (fun β => rfl) β w hh
  | false => cases h3 : big k y.s with
  | true =>
    obtain rfl : b = false := by rw [← hb, h1, h2, h3]; rfl
    exact bspec_ok [evBig k x.s 23 false h1, evBig k x.t 31 false h2, evBig k y.s 40 true h3] [] 800 Tryz.func62 hmA (fun β => by kernel_rfl) (by kernel_rfl) (fun β => rfl) β w hh
  | false => cases h4 : big k y.t with
  | true =>
    obtain rfl : b = false := by rw [← hb, h1, h2, h3, h4]; rfl
    exact bspec_ok [evBig k x.s 23 false h1, evBig k x.t 31 false h2, evBig k y.s 40 false h3, evBig k y.t 49 true h4] [] 800 Tryz.func62 hmA (fun β => by kernel_rfl) (by kernel_rfl) (fun β => rfl) β w hh
  | false =>
    obtain rfl : b = true := by rw [← hb, h1, h2, h3, h4]; rfl
    exact bspec_ok [evBig k x.s 23 false h1, evBig k x.t 31 false h2, evBig k y.s 40 false h3, evBig k y.t 49 false h4] [] 800 Tryz.func62 hmA (fun β => by kernel_rfl) (by kernel_rfl) (fun β => rfl) β w hh
def sR4Small (k : Nat) (x y : R4) {b : Bool} (hb : smB k x y = b) : BSpec Tryz.prog :=
  ⟨62, Tryz.call62, [.one (.c (.b (.v (.int .i64 (k : Int))))), .one (.c (.b (.s 0 0 1 1)))], x.L ++ y.L, 27, .bool b, small4_ok k x y hb, by kernel_rfl, fun _ => rfl⟩
def Rw.C (r : Rw) : List Lf := rawC r.i r.x r.y
def Rw.sm (k : Nat) (r : Rw) : Bool := smB k r.x r.y
theorem small7_ok (k : Nat) (p q r s : Rw) {b : Bool} (hb : (p.sm k && (q.sm k && (r.sm k && s.sm k))) = b) (β : Env) (w : World) (hh : (Ob.box (p.C ++ q.C ++ r.C ++ s.C) 29).holds β w (β 0)) :
    Calls Tryz.prog 20 (([.one (.c (.b (.v (.int .i64 (k : Int))))), .one (.c (.b (.s 0 0 4 4)))] : List SV).map (SV.den β)).toArray w fun e w' => e = .returned (.bool b) ∧ Below w.heap.size w w' := by
  cases h1 : p.sm k with
  | false =>
    obtain rfl : b = false := by rw [← hb, h1]; rfl
    exact bspec_ok [(sR4Small k p.x p.y h1).e] [] 800 Tryz.func20 hmA (fun β => by kernel_rfl) (by kernel_rfl) (fun β => rfl) β w hh
  | true => cases h2 : q.sm k with
  | false =>
    obtain rfl : b = false := by rw [← hb, h1, h2]; rfl
    exact bspec_ok [(sR4Small k p.x p.y h1).e, (sR4Small k q.x q.y h2).e] [] 800 Tryz.func20 hmA (fun β => by kernel_rfl) (by kernel_rfl) (fun β => rfl) β w hh
  | true => cases h3 : r.sm k with
  | false =>
    obtain rfl : b = false := by rw [← hb, h1, h2, h3]; rfl
    exact bspec_ok [(sR4Small k p.x p.y h1).e, (sR4Small k q.x q.y h2).e, (sR4Small k r.x r.y h3).e] [] 800 Tryz.func20 hmA (fun β => by kernel_rfl) (by kernel_rfl) (fun β => rfl) β w hh
  | true =>
    obtain rfl : b = s.sm k := by rw [← hb, h1, h2, h3]; rfl
    cases h4 : s.sm k <;> exact bspec_ok [(sR4Small k p.x p.y h1).e, (sR4Small k q.x q.y h2).e, (sR4Small k r.x r.y h3).e, (sR4Small k s.x s.y h4).e] [] 800 Tryz.func20 hmA (fun β => by kernel_rfl) (by kernel_rfl) (fun β => rfl) β w hh
def sR7Small (k : Nat) (p q r s : Rw) {b : Bool} (hb : (p.sm k && (q.sm k && (r.sm k && s.sm k))) = b) : BSpec Tryz.prog :=
  ⟨20, Tryz.call20, [.one (.c (.b (.v (.int .i64 (k : Int))))), .one (.c (.b (.s 0 0 4 4)))], p.C ++ q.C ++ r.C ++ s.C, 29, .bool b, small7_ok k p q r s hb, by kernel_rfl, fun _ => rfl⟩
def Pp.may7E : Pp → List (Ev Tryz.prog)
  | .inf => []
  | .fin a b => [(sR4May a b).e]
  | .odd x y h => [eqEvP true true x y r40 r40 false (odd_ne h)]
def sR7May0 (p : Pp) : Spec Tryz.prog :=
  Spec.auto Tryz.call16 [.one (.a p.C)] [] (.one (.c (.b (.v (.bool p.B))))) []
    p.may7E [] 400 Tryz.func16 hmA (by rcases p with _ | ⟨_ | _, _ | _⟩ | _ <;> kernel_rfl) (fun β => by rcases p with _ | ⟨_ | _, _ | _⟩ | _ <;> kernel_rfl)
def sR7May (p : Pp) {b : Bool} (hb : p.B = b) : Spec Tryz.prog :=
  (sR7May0 p).as [svR p.rI p.rX p.rY] (.one (.c (.b (.v (.bool b))))) (congrArg (fun l => [SV.one (.a l)]) (Pp.C_raw p)) (congrArg (fun b => SV.one (.c (.b (.v (.bool b))))) hb)
def by7E : Pt → List (Ev Tryz.prog)
  | .inf => [(sR4Int 1 0).e, (sR4Int 0 0).e]
  | .fin _ => [(sR4Int 1 0).e]
def sR7By (p : Pt) : Spec Tryz.prog :=
  Spec.auto Tryz.call150 [svP p] [] (.tup [.a (gC (byA p)), .a (gC (byB p))]) [] (by7E p) [(3, 3)] 400 Tryz.func150 hmA (by cases p <;> kernel_rfl) (fun β => by cases p <;> kernel_rfl)
abbrev KP : Nat := 1000000
def sR7Det {p q : Pt} (hp : PSz KP p) (hq : PSz KP q) : Spec Tryz.prog :=
  Spec.auto Tryz.call149 [svP p, svP q] [] (svG (gacross p q)) []
    [(sR7By p).e, (sR7By q).e, (sR4Times (byA_sz hp (by decide)).le (byB_sz (k := KE) (p := q) (by decide))).e, (sR4Times (byB_sz (k := KE) (p := p) (by decide)) (byA_sz hq (by decide)).le).e,
      (sR4Minus ((byA_sz hp (by decide)).mul (byB_sz (k := KP) (p := q) (by decide))).le ((byB_sz (k := KP) (p := p) (by decide)).mul (byA_sz hq (by decide))).le).e] [(3, 7)] 400 Tryz.func149 hmA (by kernel_rfl) (fun β => by kernel_rfl)
def sR7Inf : Spec Tryz.prog := Spec.auto Tryz.call121 [] [] (svP .inf) [] [] [] 400 Tryz.func121 hmA (by kernel_rfl) (fun β => by kernel_rfl)
def sR7Of (z : GQ) : Spec Tryz.prog := Spec.auto Tryz.call142 [svG z] [] (svP (.fin z)) [] [] [] 400 Tryz.func142 hmA (by kernel_rfl) (fun β => by kernel_rfl)
def sR7Int (n m : Int) (hn : -9223372036854775808 ≤ n ∧ n ≤ 9223372036854775807 := by decide) (hm : -9223372036854775808 ≤ m ∧ m ≤ 9223372036854775807 := by decide) : Spec Tryz.prog :=
  Spec.auto Tryz.call117 [.one (.c (.b (.v (.int .i64 n)))), .one (.c (.b (.v (.int .i64 m))))] [] (svP (.fin (gint n m))) [] [(sR4Int n m hn hm).e, (sR7Of (gint n m)).e] [] 400 Tryz.func117 hmA (by kernel_rfl) (fun β => by kernel_rfl)
def pratio (x y : GQ) (b : Bool) : Pt := bif b then .inf else .fin (gdiv x y)
def sR7Ratio {x y : GQ} (hx : GSz KE x) (hy : GSz KE y) {b : Bool} (hb : gzero y = b) : Spec Tryz.prog :=
  ⟨226, Tryz.call226, [svG x, svG y], [], svP (pratio x y b), [], fun β w hh => by
    cases b
    · exact spec_auto (evs := [(sR4Zero y hb).e, (sR4Over hx hy hb).e, (sR7Of (gdiv x y)).e]) (Ns := []) (m := 400) Tryz.func226 hmA (fun β => by kernel_rfl) (by kernel_rfl) β w hh
    · exact spec_auto (evs := [(sR4Zero y hb).e, sR7Inf.e]) (Ns := []) (m := 400) Tryz.func226 hmA (fun β => by kernel_rfl) (by kernel_rfl) β w hh, by kernel_rfl⟩
def minv0 (m : MQ) : MQ := mconj (mundo0 m) m.t
theorem minv0_sz {k : Nat} {m : MQ} (h : MSz k m) : MSz k (minv0 m) := h.undo0.conj _
theorem maC_fit {m : MQ} (h : FitM m) : maC m = mC m ∧ maK m = 0 := by
  obtain ⟨h1, h2⟩ := maC_yes h
  refine ⟨?_, h2⟩
  rw [h1, (ga_fit h.1).1, (ga_fit h.2.1).1, (ga_fit h.2.2.1).1, (ga_fit h.2.2.2).1]
  rfl
end Go.Proofs.YtiolbdleihiocaaGreat
end
section
namespace Go.Proofs.YtiolbdleihiocaaGreat
open Go Go.RowKit
set_option maxRecDepth 100000
abbrev KQ : Nat := 250
theorem PSz.le {i k : Nat} {p : Pt} (h : PSz i p) (hk : Nat.ble i k = true := by decide) : PSz k p := h.mono (Nat.le_of_ble_eq_true hk)
theorem MSz.le {i k : Nat} {m : MQ} (h : MSz i m) (hk : Nat.ble i k = true := by decide) : MSz k m := h.mono (Nat.le_of_ble_eq_true hk)
abbrev csz (k : Nat) : Nat := k + (k + k + (k + k) + 1 + (k + k + (k + k) + 1) + 1) + (k + (k + k + (k + k) + 1 + (k + k + (k + k) + 1) + 1)) + 1
theorem rchart0_sz {k : Nat} {a b c : Pt} (ha : PSz k a) (hb : PSz k b) (hc : PSz k c) (hk : 1 ≤ k) : MSz (csz k) (rchart0 a b c) :=
  ⟨((byB_sz hk).mul (gacross_sz ha hb hk)).neg, (byA_sz hc hk).mul (gacross_sz ha hb hk), (byB_sz hk).mul (gacross_sz hb hc hk), ((byA_sz ha hk).mul (gacross_sz hb hc hk)).neg⟩
def pchart (a b c : Pt) : MQ := mnormB (rchart0 a b c) (gzero (rchart0 a b c).c)
def pback (a b c : Pt) : MQ := mnormB (minv0 (pchart a b c)) (gzero (minv0 (pchart a b c)).c)
def pfourth (a b c r : Pt) : Pt := msend (pback a b c) r (gzero (msD (pback a b c) r))
theorem rchart_reg {a b c : Pt} (h1 : a ≠ b) (h2 : b ≠ c) (h3 : c ≠ a) : Reg (rchart0 a b c) := by
  rw [rchart_eq]
  exact Reg.chart (Ne.symm h2) (Ne.symm h1) h3
theorem pchart_reg {a b c : Pt} (h1 : a ≠ b) (h2 : b ≠ c) (h3 : c ≠ a) : Reg (pchart a b c) := (rchart_reg h1 h2 h3).norm ((rchart_reg h1 h2 h3).by_ rfl)
theorem minv_reg {m : MQ} (h : Reg m) : Reg (minv0 m) := h.undo0.conj _
theorem pchart_sz {k : Nat} {a b c : Pt} (ha : PSz k a) (hb : PSz k b) (hc : PSz k c) (hk : 1 ≤ k) (h1 : a ≠ b) (h2 : b ≠ c) (h3 : c ≠ a) : MSz (dsz (csz k)) (pchart a b c) := (rchart0_sz ha hb hc hk).normB ((rchart_reg h1 h2 h3).by0 rfl)
theorem pback_sz {k : Nat} {a b c : Pt} (ha : PSz k a) (hb : PSz k b) (hc : PSz k c) (hk : 1 ≤ k) (h1 : a ≠ b) (h2 : b ≠ c) (h3 : c ≠ a) : MSz (dsz (dsz (csz k))) (pback a b c) := (minv0_sz (pchart_sz ha hb hc hk h1 h2 h3)).normB ((minv_reg (pchart_reg h1 h2 h3)).by0 rfl)
end Go.Proofs.YtiolbdleihiocaaGreat
end
section
namespace Go.Proofs.YtiolbdleihiocaaGreat
open Go Go.RowKit
set_option maxRecDepth 100000
theorem gq_one_ne : (⟨1, 0⟩ : GQ) ≠ g0 := fun e => by have := congrArg GQ.re e; exact absurd this (by show (1 : Rat) ≠ 0; decide)
theorem gq_div_one (z : GQ) : gdiv z ⟨1, 0⟩ = z := by
  rw [gdiv_eq_iff gq_one_ne]
  refine GQ.ext2 ?_ ?_ <;> (simp only [gmul]; grind)
def mnorm (m : MQ) : MQ := mnormB m (gzero m.c)
def Nrm (m : MQ) : Prop := (bif gzero m.c then m.d else m.c) = ⟨1, 0⟩
theorem Nrm.id {m : MQ} (h : Nrm m) : mnorm m = m := by
  unfold Nrm at h
  unfold mnorm mnormB
  rw [h, gq_div_one, gq_div_one, gq_div_one, gq_div_one]
def mid (t : Bool) : MQ := ⟨gint 1 0, g0, g0, gint 1 0, t⟩
theorem gmul_1 (z : GQ) : gmul (gint 1 0) z = z := by rw [gint10]; refine GQ.ext2 ?_ ?_ <;> (simp only [gmul]; grind)
theorem gadd_0 (z : GQ) : gadd z g0 = z := by refine GQ.ext2 ?_ ?_ <;> (simp only [gadd, g0]; grind)
theorem gadd_0' (z : GQ) : gadd g0 z = z := by refine GQ.ext2 ?_ ?_ <;> (simp only [gadd, g0]; grind)
end Go.Proofs.YtiolbdleihiocaaGreat
end
section
namespace Go.Proofs.YtiolbdleihiocaaGreat.Y
open Go Go.RowKit
set_option maxRecDepth 100000
theorem an_mem {w : World} {D1 D2 : Thing} {xs : List Pl} (h : newHold w [D1, D2] xs) : newHold w [anyT, anyT] xs := by
  match xs, h with
  | [p, q], h => exact ⟨an_of D1.st h.1, an_of D2.st h.2.1, trivial⟩
theorem spT_any {w : World} {p : Pp} {xs : List Pl} (h : newHold w (spT p) xs) : newHold w [anyT, anyT] xs := by
  rcases p with _ | ⟨_ | _, _ | _⟩ | _ <;> exact an_mem h
def sSpotW (p : Pp) {r : Bool} (hr : p.B = r) : Spec Tryz.prog :=
  ⟨106, Tryz.call106, [.one (.a (lsX p.w.C))], [], .tup [.a [.b (.v (.bool (spI p))), .b (.z 0 0), .b (.z 1 0)], .c (.b (.v (.bool r)))], [anyT, anyT], fun β w hh => by
    rw [← hr]
    have h := (sSpot p).ok β w hh
    rw [show (sSpot p).args = [.one (.a (lsX p.w.C))] from congrArg (fun l => [SV.one (.a (lsX l))]) p.C_raw] at h
    exact h.mono fun e w' ⟨xs, h1, he, h2, h3⟩ => ⟨xs, h1, he, spT_any h2, h3⟩, by kernel_rfl⟩
def sSpotP (p : Pt) (h : FitP p) : Spec Tryz.prog :=
  ⟨106, Tryz.call106, [.one (.a (lsX p.w.C))], [], .tup [.a (pL 0 p), .c (.b (.v (.bool true)))], pM p, fun β w hh => by
    cases p with
    | inf => exact (sSpot .inf).ok β w hh
    | fin z =>
      refine ((sSpot (.fin (.ok z.re h.1) (.ok z.im h.2))).ok β w hh).mono fun e w' ⟨xs, h1, he, h2, h3⟩ => ⟨xs, h1, he, ?_, h3⟩
      have h4 : newHold w' [ratT z.re, ratT z.im] xs := h2
      match xs, h4 with
      | [a, b], h4 => exact ⟨(ratT z.re).imp _ _ h4.1, (ratT z.im).imp _ _ h4.2.1, trivial⟩, by kernel_rfl⟩
def MayQ (q : MQ) : Prop := FitM q ∧ gzero (mdet q) = false ∧ (gzero (gsub q.c (gint 1 0)) = true ∨ gzero q.c = true ∧ gzero (gsub q.d (gint 1 0)) = true)
def sOpenYes {q : MQ} (h : MayQ q) : Spec Tryz.prog :=
  ⟨132, Tryz.call132, [.one (.a (mCl q))], [], .tup [mA 0 q, .c (.b (.v (.bool true)))], mT q, fun β w hh => by
    obtain ⟨hf, hd, hr⟩ := h
    have hk : mayR (gzero (gsub q.c (gint 1 0))) (gzero q.c) (gzero (gsub q.d (gint 1 0))) = true := by
      unfold mayR
      rcases hr with h | ⟨h, k⟩
      · rw [h]; rfl
      · rw [h, k]; cases gzero (gsub q.c (gint 1 0)) <;> rfl
    refine ((sOpenM hf hd rfl rfl rfl).ok β w hh).mono fun e w' ⟨xs, h1, he, h2, h3⟩ => ⟨xs, h1, ?_, h2, h3⟩
    rw [he]
    show Ending.returned ((SV.tup [mA 0 q, .c (.b (.v (.bool (mayR (gzero (gsub q.c (gint 1 0))) (gzero q.c) (gzero (gsub q.d (gint 1 0)))))))]).den (extE β 0 xs)) = _
    rw [hk]
    rfl, by kernel_rfl⟩
end Go.Proofs.YtiolbdleihiocaaGreat.Y
end
section
namespace Go.Proofs.YtiolbdleihiocaaGreat.Y
open Go Go.RowKit
set_option maxRecDepth 100000
def eqEvPt {p q : Pt} {r : Bool} (h : ptB p q = r) : Ev Tryz.prog := eqEvP p.i q.i p.x p.y q.x q.y r h
theorem nrm_b0 {m : MQ} (h : Nrm m) : gzero (bif gzero m.c then m.d else m.c) = false := by
  unfold Nrm at h
  rw [h]
  exact gz_false.2 gq_one_ne
noncomputable def sToldN {m : MQ} (h : MSz KM m) (h0 : Nrm m) : Spec Tryz.prog :=
  ⟨111, Tryz.call111, [mV 0 m], mM m, .tup [.a (lsX (maC m)), .c (.b (.v (.int .i64 (maK m))))], [], fun β w hh => by
    have k := (sToldM h (b := gzero m.c) rfl (nrm_b0 h0)).ok β w hh
    rw [show (sToldM h (b := gzero m.c) rfl (nrm_b0 h0)).res = .tup [.a (lsX (maC m)), .c (.b (.v (.int .i64 (maK m))))] from congrArg (fun m => SV.tup [.a (lsX (maC m)), .c (.b (.v (.int .i64 (maK m))))]) h0.id] at k
    exact k, by kernel_rfl⟩
theorem send_sz {q : MQ} (h : MSz 1024 q) {p : Pt} (hp : PSz 1024 p) {b : Bool} (hb : gzero (msD q p) = b) : PSz KB (msend q p b) := by
  cases b
  · exact (GSz.div (msN_sz h hp) (msD_sz h hp) hb).mono (by decide)
  · trivial
end Go.Proofs.YtiolbdleihiocaaGreat.Y
end
section
namespace Go.Proofs.YtiolbdleihiocaaGreat
open Go Go.RowKit
set_option maxRecDepth 100000
def openE : List Pp → List (Ev Tryz.prog)
  | [] => []
  | p :: r => (sSpot p).e :: (bif p.B then (sPMay p).e :: openE r else [])
def zP : List Lf := [.b (.v (.bool false)), nilL, nilL]
end Go.Proofs.YtiolbdleihiocaaGreat
end
section
namespace Go.Proofs.YtiolbdleihiocaaGreat
open Go Go.RowKit
set_option maxRecDepth 100000
abbrev svI (n : Int) : SC := .c (.b (.v (.int .i64 n)))
theorem sz_lit1 {n : Int} (h : n.natAbs < 256) : Fit (Rat.divInt n 1) := (Sz.small h).fit (by decide)
theorem fit_int {n m : Int} (h : n.natAbs < 256) (k : m.natAbs < 256) : FitG (gint n m) := ⟨sz_lit1 h, sz_lit1 k⟩
def mV (a a' b b' c c' d d' : R4) (t : Bool) : Array Value := #[.bool a.b, .string a.s, .bool a.c, .string a.t, .bool a'.b, .string a'.s, .bool a'.c, .string a'.t, .bool b.b, .string b.s, .bool b.c, .string b.t, .bool b'.b, .string b'.s, .bool b'.c, .string b'.t,
  .bool c.b, .string c.s, .bool c.c, .string c.t, .bool c'.b, .string c'.s, .bool c'.c, .string c'.t, .bool d.b, .string d.s, .bool d.c, .string d.t, .bool d'.b, .string d'.s, .bool d'.c, .string d'.t, .bool t]
def gV (a a' : R4) : Array Value := #[.bool a.b, .string a.s, .bool a.c, .string a.t, .bool a'.b, .string a'.s, .bool a'.c, .string a'.t]
def geq (x y x' y' : R4) : Bool := x.eq x' && (y.eq y' && true)
theorem eqM {w : World} (n : Nat) (a a' b b' c c' d d' : R4) (t : Bool) (p p' q q' r r' s s' : R4) (u : Bool) : (Op.equalIn (n + 5) 35 (.agg (mV a a' b b' c c' d d' t)) (.agg (mV p p' q q' r r' s s' u))).run Tryz.prog w = .ok (geq a a' p p' && (geq b b' q q' && (geq c c' r r' && (geq d d' s s' && ((t == u) && true))))) w := by
  unfold mV
  rw [run_equalIn_agg _ _ _ _ _ (by kernel_rfl) (by kernel_rfl)]
  refine run_eqF_cons (a := .agg (gV a a')) (b := .agg (gV p p')) (by kernel_rfl) (by kernel_rfl) (by kernel_rfl) (eqG n _ _ _ _) ?_
  refine run_eqF_cons (a := .agg (gV b b')) (b := .agg (gV q q')) (by kernel_rfl) (by kernel_rfl) (by kernel_rfl) (eqG n _ _ _ _) ?_
  refine run_eqF_cons (a := .agg (gV c c')) (b := .agg (gV r r')) (by kernel_rfl) (by kernel_rfl) (by kernel_rfl) (eqG n _ _ _ _) ?_
  refine run_eqF_cons (a := .agg (gV d d')) (b := .agg (gV s s')) (by kernel_rfl) (by kernel_rfl) (by kernel_rfl) (eqG n _ _ _ _) ?_
  refine run_eqF_cons (a := .bool t) (b := .bool u) (by kernel_rfl) (by kernel_rfl) (by kernel_rfl) (run_equalIn_bool' _ _ _ _ _ (by kernel_rfl)) ?_
  kernel_rfl
theorem geq_self (x y : R4) : geq x y x y = true := by
  unfold geq
  rw [R4.eq_iff.2 rfl, R4.eq_iff.2 rfl]; rfl
def eqEvM (a a' b b' c c' d d' : R4) (t : Bool) : Ev Tryz.prog :=
  eqEv 35 (mV a a' b b' c c' d d' t) (mV a a' b b' c c' d d' t) true (by kernel_rfl) (fun w => by
    have h := eqM (w := w) 9995 a a' b b' c c' d d' t a a' b b' c c' d d' t
    rw [geq_self, geq_self, geq_self, geq_self, show (t == t) = true from beq_self_eq_true t] at h
    exact h)
def eqMC (m : MQ) : Ev Tryz.prog := eqEvM (fR m.a.re) (fR m.a.im) (fR m.b.re) (fR m.b.im) (fR m.c.re) (fR m.c.im) (fR m.d.re) (fR m.d.im) m.t
abbrev svB (b : Bool) : SV := .one (.c (.b (.v (.bool b))))
abbrev pI (n m : Int) : Pt := .fin (gint n m)
theorem pI_fit {n m : Int} (h : n.natAbs < 256) (k : m.natAbs < 256) : FitP (pI n m) := fit_int h k
theorem pI_ne {n m n' m' : Int} (h : ¬ (n = n' ∧ m = m')) : pI n m ≠ pI n' m' := fun e => h (by
  injection e with e
  injection e with e1 e2
  have k1 := congrArg Rat.num e1
  have k2 := congrArg Rat.num e2
  rw [(divInt_one n).1, (divInt_one n').1] at k1
  rw [(divInt_one m).1, (divInt_one m').1] at k2
  exact ⟨k1, k2⟩)
theorem svA_fit {P Q : Pt} (h : P = Q) (hq : FitP Q) : svA P (paK P) = .tup [.a Q.w.C, svI 0] := by
  subst h
  unfold svA
  rw [(pa_fit hq).1, (pa_fit hq).2.1, (pa_fit hq).2.2, paK_fit hq]
  rfl
theorem fit_small {z : GQ} (h1 : z.re.num.natAbs < 256) (h2 : z.re.den < 256) (h3 : z.im.num.natAbs < 256) (h4 : z.im.den < 256) : FitP (.fin z) :=
  ⟨Sz.fit (k := 1) ⟨sz_small h1, sz_small (n := (z.re.den : Int)) (by simpa using h2)⟩ (by decide), Sz.fit (k := 1) ⟨sz_small h3, sz_small (n := (z.im.den : Int)) (by simpa using h4)⟩ (by decide)⟩
theorem gq_lit {z w : GQ} (h1 : decide (z.re = w.re) = true) (h2 : decide (z.im = w.im) = true) : z = w := GQ.ext2 (of_decide_eq_true h1) (of_decide_eq_true h2)
theorem msend_lit {m : MQ} {p : Pt} {P : Pt} {f : Bool} (hf : gzero (msD m p) = f) (h : msend m p f = P) : msend m p (gzero (msD m p)) = P := by rw [hf]; exact h
abbrev mOne : MQ := ⟨gint 1 0, gint 0 0, gint 0 0, gint 1 0, false⟩
theorem mq_ext {m n : MQ} (h1 : m.a = n.a) (h2 : m.b = n.b) (h3 : m.c = n.c) (h4 : m.d = n.d) (h5 : m.t = n.t) : m = n := by cases m; cases n; cases h1; cases h2; cases h3; cases h4; cases h5; rfl
theorem fit_one : FitM mOne := ⟨fit_int (by decide) (by decide), fit_int (by decide) (by decide), fit_int (by decide) (by decide), fit_int (by decide) (by decide)⟩
end Go.Proofs.YtiolbdleihiocaaGreat
end
section
namespace Go.Proofs.YtiolbdleihiocaaGreat
open Go Go.RowKit
set_option maxRecDepth 100000
def Spec.as2 {P : Program} (S : Spec P) (args : List SV) (res : SV) (news : List Thing) (ha : S.args = args) (hr : S.res = res) (hn : S.news = news) : Spec P :=
  ⟨S.f, S.en, args, S.obs, res, news, fun β w hh => by subst ha; subst hr; subst hn; exact S.ok β w hh, by subst ha; subst hr; subst hn; exact S.closed⟩
noncomputable def sOpenOk {p q r s : Pt} (hp : FitP p) (hq : FitP q) (hr : FitP r) (hs : FitP s) : Spec Tryz.prog :=
  Spec.auto Tryz.call156 [.one (.a (p.w.C ++ q.w.C ++ r.w.C ++ s.w.C))] [] (.tup [.a (plC 0 p ++ plC (plN p) q ++ plC (plN p + plN q) r ++ plC (plN p + plN q + plN r) s), .c (.b (.v (.int .i64 0)))]) (plT p ++ plT q ++ plT r ++ plT s)
    (openE [ppt p hp, ppt q hq, ppt r hr, ppt s hs]) [] 1200 Tryz.func156 hmA (by cases p <;> cases q <;> cases r <;> cases s <;> kernel_rfl) (fun β => by cases p <;> cases q <;> cases r <;> cases s <;> kernel_rfl)
def mz : List Lf := [nilL, nilL, nilL, nilL, nilL, nilL, nilL, nilL, .b (.v (.bool false))]
section
variable {a b c : Pt} (ha : FitP a) (hb : FitP b) (hc : FitP c)
noncomputable def sCChart0 (h1 : ptB a b = false) (h2 : ptB b c = false) (h3 : ptB c a = false) {f : Bool} (hf : gzero (mchart0 c b a).c = f) (h0 : gzero (bif f then (mchart0 c b a).d else (mchart0 c b a).c) = false) : Spec Tryz.prog :=
  Spec.auto Tryz.call143 [svP a, svP b, svP c] [] (.tup [mxA 0 (mnormB (mchart0 c b a) f), svI 0]) (mxT (mnormB (mchart0 c b a) f))
    [(sOpenOk hc hb ha ha).e, eqP2 h1, eqP2 h2, eqP2 h3, (sChart hc.sz.le hb.sz.le ha.sz.le hf h0).e] [] 800 Tryz.func143 hmA (by kernel_rfl) (fun β => by cases a <;> cases b <;> cases c <;> kernel_rfl)
theorem pchart_eq (a b c : Pt) : mnormB (mchart0 c b a) (gzero (mchart0 c b a).c) = pchart a b c := by unfold pchart; rw [rchart_eq]
theorem ptB_sym {p q : Pt} (h : p ≠ q) : ptB p q = false := by
  cases k : ptB p q
  · rfl
  · exact absurd (ptB_iff.1 k) h
noncomputable def sCChart (h1 : a ≠ b) (h2 : b ≠ c) (h3 : c ≠ a) : Spec Tryz.prog :=
  (sCChart0 ha hb hc (ptB_sym h1) (ptB_sym h2) (ptB_sym h3) (f := gzero (mchart0 c b a).c) rfl ((Reg.chart (Ne.symm h2) (Ne.symm h1) h3).by0 rfl)).as2 [svP a, svP b, svP c] (.tup [mxA 0 (pchart a b c), svI 0]) (mxT (pchart a b c)) rfl
    (congrArg (fun m => SV.tup [mxA 0 m, svI 0]) (pchart_eq a b c)) (congrArg mxT (pchart_eq a b c))
end
theorem gdiv_self {u : GQ} (h : u ≠ g0) : gdiv u u = ⟨1, 0⟩ := by
  rw [gdiv_eq_iff h]
  refine GQ.ext2 ?_ ?_ <;> (simp only [gmul]; grind)
theorem gdiv_one (z : GQ) : gdiv z ⟨1, 0⟩ = z := by
  rw [gdiv_eq_iff (fun e => by have := congrArg GQ.re e; exact absurd this (by show (1 : Rat) ≠ 0; decide))]
  refine GQ.ext2 ?_ ?_ <;> (simp only [gmul]; grind)
theorem one_ne : (⟨1, 0⟩ : GQ) ≠ g0 := fun e => by have := congrArg GQ.re e; exact absurd this (by show (1 : Rat) ≠ 0; decide)
theorem norm_c {m : MQ} {f : Bool} (hf : gzero m.c = f) (h0 : (bif f then m.d else m.c) ≠ g0) : gzero (mnormB m f).c = f ∧ (bif f then (mnormB m f).d else (mnormB m f).c) = ⟨1, 0⟩ := by
  cases f
  · have h : m.c ≠ g0 := h0
    refine ⟨?_, gdiv_self h0⟩
    show gzero (gdiv m.c m.c) = false
    rw [gdiv_self h]
    exact gz_false.2 one_ne
  · have h : m.d ≠ g0 := h0
    refine ⟨?_, gdiv_self h0⟩
    show gzero (gdiv m.c m.d) = true
    rw [gz_true.1 hf, gz_true, gdiv_eq_iff h]
    refine GQ.ext2 ?_ ?_ <;> (simp only [gmul, g0]; grind)
theorem norm_idem {m : MQ} {f : Bool} (hf : gzero m.c = f) (h0 : (bif f then m.d else m.c) ≠ g0) : mnormB (mnormB m f) f = mnormB m f := by
  obtain ⟨_, h2⟩ := norm_c hf h0
  generalize mnormB m f = M at h2
  unfold mnormB
  rw [h2, gdiv_one, gdiv_one, gdiv_one, gdiv_one]
noncomputable def sToldN {m : MQ} {f : Bool} (hf : gzero m.c = f) (h0 : (bif f then m.d else m.c) ≠ g0) (hz : MSz KM (mnormB m f)) : Spec Tryz.prog :=
  (sToldM hz (norm_c hf h0).1 (by rw [(norm_c hf h0).2]; exact gz_false.2 one_ne)).as [.one (mxA 0 (mnormB m f))] (.tup [.a (maC (mnormB m f)), svI (maK (mnormB m f))]) rfl (congrArg (fun m => SV.tup [.a (maC m), svI (maK m)]) (norm_idem hf h0))
abbrev svZ (k : Int) : SV := .tup [.a (rawC false r40 r40), svI k]
def mz0 : List Lf := g0C ++ g0C ++ g0C ++ g0C ++ [.b (.v (.bool false))]
section
variable {a b c : Pt} (ha : FitP a) (hb : FitP b) (hc : FitP c)
variable (h1 : a ≠ b) (h2 : b ≠ c) (h3 : c ≠ a)
noncomputable def sChartOk : Spec Tryz.prog :=
  Spec.auto Tryz.call46 [svP a, svP b, svP c] [] (.tup [.a (maC (pchart a b c)), svI (maK (pchart a b c))]) []
    [(sCChart ha hb hc h1 h2 h3).e, (sToldN (m := rchart0 a b c) (f := gzero (rchart0 a b c).c) rfl ((rchart_reg h1 h2 h3).by_ rfl) (pchart_sz ha.sz hb.sz hc.sz (by decide) h1 h2 h3).le).e] [] 800 Tryz.func46 hmA (by kernel_rfl) (fun β => by kernel_rfl)
theorem send_sz {i j : Nat} {m : MQ} {p : Pt} (h : MSz i m) (hp : PSz j p) {b : Bool} (hb : gzero (msD m p) = b) : PSz (dsz (ssz i j)) (msend m p b) := by
  cases b
  · exact (msN_sz h hp).div (msD_sz h hp) hb
  · trivial
noncomputable def sFourth0 {r : Pt} (hr : FitP r) {f : Bool} (hf : gzero (msD (pback a b c) r) = f) : Spec Tryz.prog :=
  Spec.auto Tryz.call45 [svP a, svP b, svP c, svP r] [] (.tup [.a (paC (msend (pback a b c) r f)), svI (paK (msend (pback a b c) r f))]) []
    [(sSpot (ppt r hr)).e, (sCChart ha hb hc h1 h2 h3).e, (sUndo (m := pchart a b c) (pchart_sz ha.sz hb.sz hc.sz (by decide) h1 h2 h3).le (b := gzero (minv0 (pchart a b c)).c) rfl ((minv_reg (pchart_reg h1 h2 h3)).by0 rfl)).e,
      (sSend (m := pback a b c) (pback_sz ha.sz hb.sz hc.sz (by decide) h1 h2 h3).le hr.sz.le hf).e,
      (sToldP (msend (pback a b c) r f) (send_sz (pback_sz ha.sz hb.sz hc.sz (by decide) h1 h2 h3) hr.sz hf).le).e] [(7, 7)] 800 Tryz.func45 hmA (by cases f <;> kernel_rfl) (fun β => by cases r <;> cases f <;> kernel_rfl)
noncomputable def sFourthOk {r : Pt} (hr : FitP r) : Spec Tryz.prog :=
  (sFourth0 ha hb hc h1 h2 h3 hr (f := gzero (msD (pback a b c) r)) rfl).as [svP a, svP b, svP c, svP r] (svA (pfourth a b c r) (paK (pfourth a b c r))) rfl (congrArg (fun l => SV.tup [.a l, svI (paK (pfourth a b c r))]) (paC_raw (pfourth a b c r)))
end
end Go.Proofs.YtiolbdleihiocaaGreat
end
section
namespace Go.Proofs.YtiolbdleihiocaaGreat
open Go Go.RowKit
set_option maxRecDepth 100000
theorem ptB_comm (p q : Pt) : ptB p q = ptB q p := by
  rw [Bool.eq_iff_iff, ptB_iff, ptB_iff]
  exact ⟨Eq.symm, Eq.symm⟩
theorem ptB_comm' {p q : Pt} {r : Bool} (h : ptB p q = r) : ptB q p = r := by rw [ptB_comm]; exact h
def b2i (b : Bool) : Int := bif b then 1 else 0
def mostI (a b c d e f : Bool) : Int := max (max (max (max 0 (1 + b2i a + b2i b + b2i c)) (b2i a + 1 + b2i d + b2i e)) (b2i b + b2i d + 1 + b2i f)) (b2i c + b2i e + b2i f + 1)
section
variable {p q r s : Pt} {a b c d e f : Bool} (ha : ptB p q = a) (hb : ptB p r = b) (hc : ptB p s = c) (hd : ptB q r = d) (he : ptB q s = e) (hf : ptB r s = f)
def mostE : List (Ev Tryz.prog) := [eqP2 (ptB_self p), eqP2 ha, eqP2 hb, eqP2 hc, eqP2 (ptB_comm' ha), eqP2 (ptB_self q), eqP2 hd, eqP2 he, eqP2 (ptB_comm' hb), eqP2 (ptB_comm' hd), eqP2 (ptB_self r), eqP2 hf, eqP2 (ptB_comm' hc), eqP2 (ptB_comm' he), eqP2 (ptB_comm' hf), eqP2 (ptB_self s)]
def mostA (p q r s : Pt) : List SV := [.one (.a (p.w.C ++ q.w.C ++ r.w.C ++ s.w.C))]
end
noncomputable def mostL (p q r s : Pt) (a b c d e f : Bool) (ha : ptB p q = a) (hb : ptB p r = b) (hc : ptB p s = c) (hd : ptB q r = d) (he : ptB q s = e) (hf : ptB r s = f) (β : Env) : List Tm := (specA Tryz.prog Tryz.f157 (mostA p q r s) [] (mostE ha hb hc hd he hf) [] 3000 (.one (svI (mostI a b c d e f))) [] β).map Prod.fst
noncomputable def mostR (p q r s : Pt) (a b c d e f : Bool) (ha : ptB p q = a) (hb : ptB p r = b) (hc : ptB p s = c) (hd : ptB q r = d) (he : ptB q s = e) (hf : ptB r s = f) (β : Env) : List Tm := (specA Tryz.prog Tryz.f157 (mostA p q r s) [] (mostE ha hb hc hd he hf) [] 3000 (.one (svI (mostI a b c d e f))) [] β).map Prod.snd
theorem tri1 {p q r : Pt} (h1 : ptB p q = true) (h2 : ptB q r = true) (h3 : ptB p r = false) : False := by
  rw [ptB_iff.1 h1, ptB_iff.1 h2, ptB_self] at h3
  cases h3
theorem tri2 {p q r : Pt} (h1 : ptB p q = true) (h2 : ptB q r = false) (h3 : ptB p r = true) : False := tri1 (ptB_comm' h1) h3 h2
theorem tri3 {p q r : Pt} (h1 : ptB p q = false) (h2 : ptB q r = true) (h3 : ptB p r = true) : False := tri1 h3 (ptB_comm' h2) h1
theorem most_0 (p q r s : Pt) (ha : ptB p q = false) (hb : ptB p r = false) (hc : ptB p s = false) (hd : ptB q r = false) (he : ptB q s = false) (hf : ptB r s = false) (β : Env) : mostL p q r s false false false false false false ha hb hc hd he hf β = mostR p q r s false false false false false false ha hb hc hd he hf β := by kernel_rfl
theorem most_1 (p q r s : Pt) (ha : ptB p q = false) (hb : ptB p r = false) (hc : ptB p s = false) (hd : ptB q r = false) (he : ptB q s = false) (hf : ptB r s = true) (β : Env) : mostL p q r s false false false false false true ha hb hc hd he hf β = mostR p q r s false false false false false true ha hb hc hd he hf β := by kernel_rfl
theorem most_2 (p q r s : Pt) (ha : ptB p q = false) (hb : ptB p r = false) (hc : ptB p s = false) (hd : ptB q r = false) (he : ptB q s = true) (hf : ptB r s = false) (β : Env) : mostL p q r s false false false false true false ha hb hc hd he hf β = mostR p q r s false false false false true false ha hb hc hd he hf β := by kernel_rfl
theorem most_3 (p q r s : Pt) (ha : ptB p q = false) (hb : ptB p r = false) (hc : ptB p s = false) (hd : ptB q r = true) (he : ptB q s = false) (hf : ptB r s = false) (β : Env) : mostL p q r s false false false true false false ha hb hc hd he hf β = mostR p q r s false false false true false false ha hb hc hd he hf β := by kernel_rfl
theorem most_4 (p q r s : Pt) (ha : ptB p q = false) (hb : ptB p r = false) (hc : ptB p s = false) (hd : ptB q r = true) (he : ptB q s = true) (hf : ptB r s = true) (β : Env) : mostL p q r s false false false true true true ha hb hc hd he hf β = mostR p q r s false false false true true true ha hb hc hd he hf β := by kernel_rfl
theorem most_5 (p q r s : Pt) (ha : ptB p q = false) (hb : ptB p r = false) (hc : ptB p s = true) (hd : ptB q r = false) (he : ptB q s = false) (hf : ptB r s = false) (β : Env) : mostL p q r s false false true false false false ha hb hc hd he hf β = mostR p q r s false false true false false false ha hb hc hd he hf β := by kernel_rfl
theorem most_6 (p q r s : Pt) (ha : ptB p q = false) (hb : ptB p r = false) (hc : ptB p s = true) (hd : ptB q r = true) (he : ptB q s = false) (hf : ptB r s = false) (β : Env) : mostL p q r s false false true true false false ha hb hc hd he hf β = mostR p q r s false false true true false false ha hb hc hd he hf β := by kernel_rfl
theorem most_7 (p q r s : Pt) (ha : ptB p q = false) (hb : ptB p r = true) (hc : ptB p s = false) (hd : ptB q r = false) (he : ptB q s = false) (hf : ptB r s = false) (β : Env) : mostL p q r s false true false false false false ha hb hc hd he hf β = mostR p q r s false true false false false false ha hb hc hd he hf β := by kernel_rfl
theorem most_8 (p q r s : Pt) (ha : ptB p q = false) (hb : ptB p r = true) (hc : ptB p s = false) (hd : ptB q r = false) (he : ptB q s = true) (hf : ptB r s = false) (β : Env) : mostL p q r s false true false false true false ha hb hc hd he hf β = mostR p q r s false true false false true false ha hb hc hd he hf β := by kernel_rfl
theorem most_9 (p q r s : Pt) (ha : ptB p q = false) (hb : ptB p r = true) (hc : ptB p s = true) (hd : ptB q r = false) (he : ptB q s = false) (hf : ptB r s = true) (β : Env) : mostL p q r s false true true false false true ha hb hc hd he hf β = mostR p q r s false true true false false true ha hb hc hd he hf β := by kernel_rfl
theorem most_10 (p q r s : Pt) (ha : ptB p q = true) (hb : ptB p r = false) (hc : ptB p s = false) (hd : ptB q r = false) (he : ptB q s = false) (hf : ptB r s = false) (β : Env) : mostL p q r s true false false false false false ha hb hc hd he hf β = mostR p q r s true false false false false false ha hb hc hd he hf β := by kernel_rfl
theorem most_11 (p q r s : Pt) (ha : ptB p q = true) (hb : ptB p r = false) (hc : ptB p s = false) (hd : ptB q r = false) (he : ptB q s = false) (hf : ptB r s = true) (β : Env) : mostL p q r s true false false false false true ha hb hc hd he hf β = mostR p q r s true false false false false true ha hb hc hd he hf β := by kernel_rfl
theorem most_12 (p q r s : Pt) (ha : ptB p q = true) (hb : ptB p r = false) (hc : ptB p s = true) (hd : ptB q r = false) (he : ptB q s = true) (hf : ptB r s = false) (β : Env) : mostL p q r s true false true false true false ha hb hc hd he hf β = mostR p q r s true false true false true false ha hb hc hd he hf β := by kernel_rfl
theorem most_13 (p q r s : Pt) (ha : ptB p q = true) (hb : ptB p r = true) (hc : ptB p s = false) (hd : ptB q r = true) (he : ptB q s = false) (hf : ptB r s = false) (β : Env) : mostL p q r s true true false true false false ha hb hc hd he hf β = mostR p q r s true true false true false false ha hb hc hd he hf β := by kernel_rfl
theorem most_14 (p q r s : Pt) (ha : ptB p q = true) (hb : ptB p r = true) (hc : ptB p s = true) (hd : ptB q r = true) (he : ptB q s = true) (hf : ptB r s = true) (β : Env) : mostL p q r s true true true true true true ha hb hc hd he hf β = mostR p q r s true true true true true true ha hb hc hd he hf β := by kernel_rfl
theorem most_all (p q r s : Pt) (a b c d e f : Bool) (ha : ptB p q = a) (hb : ptB p r = b) (hc : ptB p s = c) (hd : ptB q r = d) (he : ptB q s = e) (hf : ptB r s = f) (β : Env) : mostL p q r s a b c d e f ha hb hc hd he hf β = mostR p q r s a b c d e f ha hb hc hd he hf β := by
  cases a
  · cases b
    · cases c
      · cases d
        · cases e
          · cases f
            · exact most_0 p q r s ha hb hc hd he hf β
            · exact most_1 p q r s ha hb hc hd he hf β
          · cases f
            · exact most_2 p q r s ha hb hc hd he hf β
            · exact (tri3 hd hf he).elim
        · cases e
          · cases f
            · exact most_3 p q r s ha hb hc hd he hf β
            · exact (tri1 hd hf he).elim
          · cases f
            · exact (tri2 hd hf he).elim
            · exact most_4 p q r s ha hb hc hd he hf β
      · cases d
        · cases e
          · cases f
            · exact most_5 p q r s ha hb hc hd he hf β
            · exact (tri3 hb hf hc).elim
          · exact (tri3 ha he hc).elim
        · cases e
          · cases f
            · exact most_6 p q r s ha hb hc hd he hf β
            · exact (tri3 hb hf hc).elim
          · exact (tri3 ha he hc).elim
    · cases c
      · cases d
        · cases e
          · cases f
            · exact most_7 p q r s ha hb hc hd he hf β
            · exact (tri1 hb hf hc).elim
          · cases f
            · exact most_8 p q r s ha hb hc hd he hf β
            · exact (tri1 hb hf hc).elim
        · exact (tri3 ha hd hb).elim
      · cases d
        · cases e
          · cases f
            · exact (tri2 hb hf hc).elim
            · exact most_9 p q r s ha hb hc hd he hf β
          · exact (tri3 ha he hc).elim
        · exact (tri3 ha hd hb).elim
  · cases b
    · cases c
      · cases d
        · cases e
          · cases f
            · exact most_10 p q r s ha hb hc hd he hf β
            · exact most_11 p q r s ha hb hc hd he hf β
          · exact (tri1 ha he hc).elim
        · exact (tri1 ha hd hb).elim
      · cases d
        · cases e
          · exact (tri2 ha he hc).elim
          · cases f
            · exact most_12 p q r s ha hb hc hd he hf β
            · exact (tri3 hb hf hc).elim
        · exact (tri1 ha hd hb).elim
    · cases c
      · cases d
        · exact (tri2 ha hd hb).elim
        · cases e
          · cases f
            · exact most_13 p q r s ha hb hc hd he hf β
            · exact (tri1 hb hf hc).elim
          · exact (tri1 ha he hc).elim
      · cases d
        · exact (tri2 ha hd hb).elim
        · cases e
          · exact (tri2 ha he hc).elim
          · cases f
            · exact (tri2 hb hf hc).elim
            · exact most_14 p q r s ha hb hc hd he hf β
section
variable {p q r s : Pt} {a b c d e f : Bool} (ha : ptB p q = a) (hb : ptB p r = b) (hc : ptB p s = c) (hd : ptB q r = d) (he : ptB q s = e) (hf : ptB r s = f)
noncomputable def sMost : Spec Tryz.prog :=
  Spec.auto Tryz.call157 (mostA p q r s) [] (.one (svI (mostI a b c d e f))) [] (mostE ha hb hc hd he hf) [] 3000 Tryz.func157 hmA (by kernel_rfl) (fun β => most_all p q r s a b c d e f ha hb hc hd he hf β)
end
end Go.Proofs.YtiolbdleihiocaaGreat
end
section
namespace Go.Proofs.YtiolbdleihiocaaGreat
open Go Go.RowKit
set_option maxRecDepth 100000
def fourC (p q r s : Pt) : List Lf := plC 0 p ++ plC (plN p) q ++ plC (plN p + plN q) r ++ plC (plN p + plN q + plN r) s
def fourT (p q r s : Pt) : List Thing := plT p ++ plT q ++ plT r ++ plT s
abbrev fourN (p q r s : Pt) : Nat := plN p + plN q + plN r + plN s
def ratX (p q r s : Pt) : GQ := gmul (gacross p q) (gacross r s)
def ratY (p q r s : Pt) : GQ := gmul (gacross q r) (gacross s p)
abbrev rsz (k : Nat) : Nat := (k + k + (k + k) + 1 + (k + k + (k + k) + 1) + 1) + (k + k + (k + k) + 1 + (k + k + (k + k) + 1) + 1) + ((k + k + (k + k) + 1 + (k + k + (k + k) + 1) + 1) + (k + k + (k + k) + 1 + (k + k + (k + k) + 1) + 1)) + 1
theorem ratX_sz {k : Nat} {p q r s : Pt} (hp : PSz k p) (hq : PSz k q) (hr : PSz k r) (hs : PSz k s) (hk : 1 ≤ k) : GSz (rsz k) (ratX p q r s) := (gacross_sz hp hq hk).mul (gacross_sz hr hs hk)
theorem ratY_sz {k : Nat} {p q r s : Pt} (hp : PSz k p) (hq : PSz k q) (hr : PSz k r) (hs : PSz k s) (hk : 1 ≤ k) : GSz (rsz k) (ratY p q r s) := (gacross_sz hq hr hk).mul (gacross_sz hs hp hk)
def prat (p q r s : Pt) (f : Bool) : Pt := pratio (ratX p q r s) (ratY p q r s) f
theorem prat_sz {p q r s : Pt} (hp : FitP p) (hq : FitP q) (hr : FitP r) (hs : FitP s) {f : Bool} (hf : gzero (ratY p q r s) = f) : PSz (dsz (rsz 1024)) (prat p q r s f) := by
  cases f
  · exact (ratX_sz hp.sz hq.sz hr.sz hs.sz (by decide)).div (ratY_sz hp.sz hq.sz hr.sz hs.sz (by decide)) hf
  · trivial
section
variable {p q r s : Pt} (hp : FitP p) (hq : FitP q) (hr : FitP r) (hs : FitP s)
def ratE {f : Bool} (hf : gzero (ratY p q r s) = f) : List (Ev Tryz.prog) :=
  [(sAcross hp.sz.le hq.sz.le).e, (sAcross hr.sz.le hs.sz.le).e, mulE (gacross_sz hp.sz hq.sz (by decide)).le (gacross_sz hr.sz hs.sz (by decide)).le,
    (sAcross hq.sz.le hr.sz.le).e, (sAcross hs.sz.le hp.sz.le).e, mulE (gacross_sz hq.sz hr.sz (by decide)).le (gacross_sz hs.sz hp.sz (by decide)).le, (sZero (z := ratY p q r s) (ratY_sz hp.sz hq.sz hr.sz hs.sz (by decide)).le hf).e]
def ratD (hf : gzero (ratY p q r s) = false) : Ev Tryz.prog := (sDiv (z := ratX p q r s) (w := ratY p q r s) (ratX_sz hp.sz hq.sz hr.sz hs.sz (by decide)).le (ratY_sz hp.sz hq.sz hr.sz hs.sz (by decide)).le hf).e
def sRat4 {f : Bool} (hf : gzero (ratY p q r s) = f) : Spec Tryz.prog :=
  ⟨158, Tryz.call158, [.one (.a (fourC p q r s))], fourT p q r s, .one (plA (fourN p q r s) (prat p q r s f)), plT (prat p q r s f), fun β w hh => by
    cases f
    · exact spec_auto (evs := ratE hp hq hr hs hf ++ [ratD hp hq hr hs hf]) (Ns := [(1, 12), (2, 12)]) (m := 800) Tryz.func158 hmA (fun β => by cases p <;> cases q <;> cases r <;> cases s <;> kernel_rfl) (by cases p <;> cases q <;> cases r <;> cases s <;> kernel_rfl) β w hh
    · exact spec_auto (evs := ratE hp hq hr hs hf) (Ns := [(1, 12), (2, 12)]) (m := 800) Tryz.func158 hmA (fun β => by cases p <;> cases q <;> cases r <;> cases s <;> kernel_rfl) (by cases p <;> cases q <;> cases r <;> cases s <;> kernel_rfl) β w hh, by cases p <;> cases q <;> cases r <;> cases s <;> cases f <;> kernel_rfl⟩
variable {a b c d e f : Bool} (ha : ptB p q = a) (hb : ptB p r = b) (hc : ptB p s = c) (hd : ptB q r = d) (he : ptB q s = e) (hf : ptB r s = f)
theorem gt_lit {n m : Int} {t : Bool} (h : decide (m < n) = t) : Value.bool (decide (m < n)) = .bool t := by rw [h]
noncomputable def sChecked {t : Bool} (ht : decide (2 < mostI a b c d e f) = t) : Spec Tryz.prog :=
  Spec.auto Tryz.call178 (mostA p q r s) [] (.tup [.a (fourC p q r s), svI (bif t then 200 else 0)]) (fourT p q r s)
    [(sOpenOk hp hq hr hs).e, (sMost ha hb hc hd he hf).e, .eqv 16 (.bool (decide (2 < mostI a b c d e f))) (.bool t) (gt_lit ht)] [] 800 Tryz.func178 hmA (by cases p <;> cases q <;> cases r <;> cases s <;> kernel_rfl) (fun β => by cases t <;> cases p <;> cases q <;> cases r <;> cases s <;> kernel_rfl)
noncomputable def sRatioTri (ht : decide (2 < mostI a b c d e f) = true) : Spec Tryz.prog :=
  Spec.auto Tryz.call83 [svP p, svP q, svP r, svP s] [] (svZ 200) []
    [(sChecked hp hq hr hs ha hb hc hd he hf ht).e] [] 800 Tryz.func83 hmA (by kernel_rfl) (fun β => by cases p <;> cases q <;> cases r <;> cases s <;> kernel_rfl)
noncomputable def sRatio0 (ht : decide (2 < mostI a b c d e f) = false) {g : Bool} (hg : gzero (ratY p q r s) = g) : Spec Tryz.prog :=
  Spec.auto Tryz.call83 [svP p, svP q, svP r, svP s] [] (.tup [.a (paC (prat p q r s g)), svI (paK (prat p q r s g))]) []
    [(sChecked hp hq hr hs ha hb hc hd he hf ht).e, (sRat4 hp hq hr hs hg).e, (sToldP (prat p q r s g) (prat_sz hp hq hr hs hg).le).e] [] 800 Tryz.func83 hmA (by cases g <;> kernel_rfl) (fun β => by cases g <;> cases p <;> cases q <;> cases r <;> cases s <;> kernel_rfl)
noncomputable def sRatio (ht : decide (2 < mostI a b c d e f) = false) {g : Bool} (hg : gzero (ratY p q r s) = g) : Spec Tryz.prog :=
  (sRatio0 hp hq hr hs ha hb hc hd he hf ht hg).as [svP p, svP q, svP r, svP s] (svA (prat p q r s g) (paK (prat p q r s g))) rfl (congrArg (fun l => SV.tup [.a l, svI (paK (prat p q r s g))]) (paC_raw (prat p q r s g)))
noncomputable def sRoundFin (ht : decide (1 < mostI a b c d e f) = false) (hg : gzero (ratY p q r s) = false) {i : Bool} (hi : decide ((gdiv (ratX p q r s) (ratY p q r s)).im = 0) = i) : Spec Tryz.prog :=
  Spec.auto Tryz.call141 [svP p, svP q, svP r, svP s] [] (.tup [.c (.b (.v (.bool i))), svI 0]) []
    [(sOpenOk hp hq hr hs).e, (sMost ha hb hc hd he hf).e, .eqv 33 (.bool (decide (1 < mostI a b c d e f))) (.bool false) (gt_lit ht), (sRat4 hp hq hr hs hg).e, (sParts (z := gdiv (ratX p q r s) (ratY p q r s)) ((ratX_sz hp.sz hq.sz hr.sz hs.sz (by decide)).div (ratY_sz hp.sz hq.sz hr.sz hs.sz (by decide)) hg).le).e,
      nSign (x := (gdiv (ratX p q r s) (ratY p q r s)).im) rfl, .eqv 47 (.bool ((gdiv (ratX p q r s) (ratY p q r s)).im.num.sign == 0)) (.bool i) (sign_lit hi)] [] 800 Tryz.func141 hmA (by kernel_rfl) (fun β => by cases p <;> cases q <;> cases r <;> cases s <;> kernel_rfl)
end
abbrev gm1 : GQ := gint (-1) 0
theorem fit_m1 : FitP (.fin gm1) := fit_int (by decide) (by decide)
noncomputable def sToldF {z : GQ} (hz : FitG z) : Spec Tryz.prog :=
  (sTold (z := z) ⟨hz.1.sz.le, hz.2.sz.le⟩).as [.one (.a [.b (.p 0 0), .b (.p 1 0)])] (.tup [.a (gC z), svI 0]) rfl (by show SV.tup [.a (gaC z), .c (.b (.v (.int .i64 (gaK z))))] = _; rw [(ga_fit hz).1, (ga_fit hz).2])
noncomputable def harE : List (Ev Tryz.prog) := [(sInt (-1) 0 (by decide) (by decide)).e, (sToldF fit_m1).e]
section
variable {a b c : Pt} (ha : FitP a) (hb : FitP b) (hc : FitP c)
noncomputable def sHar (h1 : a ≠ b) (h2 : b ≠ c) (h3 : c ≠ a) : Spec Tryz.prog :=
  Spec.auto Tryz.call47 [svP a, svP b, svP c] [] (svA (pfourth a b c (.fin gm1)) (paK (pfourth a b c (.fin gm1)))) [] (harE ++ [(sFourthOk ha hb hc h1 h2 h3 fit_m1).e]) [] 800 Tryz.func47 hmA (by kernel_rfl) (fun β => by kernel_rfl)
end
end Go.Proofs.YtiolbdleihiocaaGreat
end
section
namespace Go.Proofs.YtiolbdleihiocaaGreat
open Go Go.RowKit
set_option maxRecDepth 100000
def sNum (k : Int) : Spec Tryz.prog := Spec.auto Tryz.call50 [.one (svI k)] [] (.one (svI k)) [] [] [] 400 Tryz.func50 hmA (by kernel_rfl) (fun β => by kernel_rfl)
def sAt (n m : Int) (hn : -9223372036854775808 ≤ n ∧ n ≤ 9223372036854775807 := by decide) (hm : -9223372036854775808 ≤ m ∧ m ≤ 9223372036854775807 := by decide) : Spec Tryz.prog :=
  Spec.auto Tryz.call54 [.one (svI n), .one (svI m)] [] (svP (.fin (gint n m))) [] [(sR7Int n m hn hm).e] [] 400 Tryz.func54 hmA (by kernel_rfl) (fun β => by kernel_rfl)
abbrev third : GQ := gdiv (gint (-1) 0) (gint 3 0)
abbrev half : GQ := gdiv (gint 1 0) (gint 2 0)
theorem fit_third : FitP (.fin third) := fit_small (by decide +kernel) (by decide +kernel) (by decide +kernel) (by decide +kernel)
theorem fit_half : FitP (.fin half) := fit_small (by decide +kernel) (by decide +kernel) (by decide +kernel) (by decide +kernel)
theorem f00 : FitP (pI 0 0) := pI_fit (by decide) (by decide)
theorem f10 : FitP (pI 1 0) := pI_fit (by decide) (by decide)
theorem f20 : FitP (pI 2 0) := pI_fit (by decide) (by decide)
theorem f30 : FitP (pI 3 0) := pI_fit (by decide) (by decide)
theorem f01 : FitP (pI 0 1) := pI_fit (by decide) (by decide)
theorem f11 : FitP (pI 1 1) := pI_fit (by decide) (by decide)
theorem rat1 : prat (pI 0 0) (pI 1 0) (pI 2 0) (pI 3 0) false = .fin third := congrArg Pt.fin (gq_lit (by kernel_rfl) (by kernel_rfl))
theorem fou1 : pfourth (pI 0 0) (pI 1 0) .inf (pI 2 0) = .fin half := msend_lit (f := false) (by kernel_rfl) (congrArg Pt.fin (gq_lit (by kernel_rfl) (by kernel_rfl)))
theorem fou2 : pfourth (pI 0 0) (pI 1 0) (pI 2 0) (.fin gm1) = .inf := msend_lit (f := true) (by kernel_rfl) rfl
theorem cha1 : pchart .inf (pI 1 0) (pI 0 0) = mOne := mq_ext (gq_lit (by kernel_rfl) (by kernel_rfl)) (gq_lit (by kernel_rfl) (by kernel_rfl)) (gq_lit (by kernel_rfl) (by kernel_rfl)) (gq_lit (by kernel_rfl) (by kernel_rfl)) rfl
noncomputable def kRat : Spec Tryz.prog :=
  (sRatio f00 f10 f20 f30 (a := false) (b := false) (c := false) (d := false) (e := false) (f := false) (ptB_sym (pI_ne (by decide))) (ptB_sym (pI_ne (by decide))) (ptB_sym (pI_ne (by decide))) (ptB_sym (pI_ne (by decide))) (ptB_sym (pI_ne (by decide))) (ptB_sym (pI_ne (by decide))) (by decide) (g := false) (by kernel_rfl)).as
    [svP (pI 0 0), svP (pI 1 0), svP (pI 2 0), svP (pI 3 0)] (.tup [.a (Pt.fin third).w.C, svI 0]) rfl (svA_fit rat1 fit_third)
noncomputable def kFou : Spec Tryz.prog :=
  (sFourthOk f00 f10 (c := .inf) trivial (pI_ne (by decide)) (fun e => by cases e) (fun e => by cases e) f20).as [svP (pI 0 0), svP (pI 1 0), svP .inf, svP (pI 2 0)] (.tup [.a (Pt.fin half).w.C, svI 0]) rfl (svA_fit fou1 fit_half)
noncomputable def kCha : Spec Tryz.prog :=
  (sChartOk (a := .inf) trivial f10 f00 (fun e => by cases e) (pI_ne (by decide)) (fun e => by cases e)).as [svP .inf, svP (pI 1 0), svP (pI 0 0)] (.tup [.a (mC mOne), svI 0]) rfl (by
    show SV.tup [.a (maC (pchart .inf (pI 1 0) (pI 0 0))), svI (maK (pchart .inf (pI 1 0) (pI 0 0)))] = _
    rw [cha1, (maC_fit fit_one).1, (maC_fit fit_one).2])
noncomputable def kRou : Spec Tryz.prog :=
  sRoundFin f00 f10 f01 f11 (a := false) (b := false) (c := false) (d := false) (e := false) (f := false) (ptB_sym (pI_ne (by decide))) (ptB_sym (pI_ne (by decide))) (ptB_sym (pI_ne (by decide))) (ptB_sym (pI_ne (by decide))) (ptB_sym (pI_ne (by decide))) (ptB_sym (pI_ne (by decide))) (by decide) (by kernel_rfl) (i := true) (by kernel_rfl)
noncomputable def kHar : Spec Tryz.prog :=
  (sHar f00 f10 f20 (pI_ne (by decide)) (pI_ne (by decide)) (pI_ne (by decide))).as [svP (pI 0 0), svP (pI 1 0), svP (pI 2 0)] (.tup [.a Pt.inf.w.C, svI 0]) rfl (svA_fit fou2 trivial)
noncomputable def kTri : Spec Tryz.prog :=
  sRatioTri f00 f00 f00 f10 (a := true) (b := true) (c := false) (d := true) (e := false) (f := false) (ptB_self _) (ptB_self _) (ptB_sym (pI_ne (by decide))) (ptB_self _) (ptB_sym (pI_ne (by decide))) (ptB_sym (pI_ne (by decide))) (by decide)
theorem no_frac : ¬ IsFrac (rawV false false ⟨#[]⟩ ⟨#[]⟩) := fun h => by
  unfold rawV at h
  rw [isFrac_doc] at h
  exact absurd h.2.2.2.1 (by decide)
def noPt : Pp := .fin (.no false false ⟨#[]⟩ ⟨#[]⟩ no_frac (by decide) (by decide)) (.no false false ⟨#[]⟩ ⟨#[]⟩ no_frac (by decide) (by decide))
noncomputable def kOB : Spec Tryz.prog :=
  Spec.auto Tryz.call156 [.one (.a ((ppt (pI 1 0) f10).w.C ++ noPt.w.C ++ noPt.w.C ++ noPt.w.C))] [] (.tup [.a (zP ++ zP ++ zP ++ zP), .c (.b (.v (.int .i64 2)))]) []
    (openE [ppt (pI 1 0) f10, noPt, noPt, noPt]) [] 1200 Tryz.func156 hmA (by kernel_rfl) (fun β => by kernel_rfl)
noncomputable def kCB : Spec Tryz.prog :=
  Spec.auto Tryz.call143 [.one (.a noPt.w.C), .one (.a noPt.w.C), .one (.a (ppt (pI 1 0) f10).w.C)] [] (.tup [.a mz, svI 2]) [] [kOB.e] [] 800 Tryz.func143 hmA (by kernel_rfl) (fun β => by kernel_rfl)
noncomputable def kBad : Spec Tryz.prog :=
  Spec.auto Tryz.call46 [.one (.a noPt.w.C), .one (.a noPt.w.C), .one (.a (ppt (pI 1 0) f10).w.C)] [] (.tup [.a mz0, svI 2]) [] [kCB.e] [] 800 Tryz.func46 hmA (by kernel_rfl) (fun β => by kernel_rfl)
def sU8 : Spec Tryz.prog := Spec.auto Tryz.call114 [] [] (svG (gint 1 0)) [] [(sR4Int 1 0).e] [] 400 Tryz.func114 hmA (by kernel_rfl) (fun β => by kernel_rfl)
def sZ8 : Spec Tryz.prog := Spec.auto Tryz.call115 [] [] (svG (gint 0 0)) [] [(sR4Int 0 0).e] [] 400 Tryz.func115 hmA (by kernel_rfl) (fun β => by kernel_rfl)
def sOne8 : Spec Tryz.prog := Spec.auto Tryz.call43 [] [] (svM mOne) [] [(sU8).e, (sZ8).e, (sZ8).e, (sU8).e] [] 400 Tryz.func43 hmA (by kernel_rfl) (fun β => by kernel_rfl)
noncomputable def sKnown10 : Spec Tryz.prog :=
  Spec.auto Tryz.call44 [] [] (svB true) []
    [(sAt 0 0).e, (sAt 1 0).e, (sAt 2 0).e, (sAt 3 0).e, kRat.e,
     (sAt 0 0).e, (sAt 1 0).e, sR7Inf.e, (sAt 2 0).e, kFou.e,
     sR7Inf.e, (sAt 1 0).e, (sAt 0 0).e, kCha.e,
     (sAt 0 0).e, (sAt 1 0).e, (sAt 0 1).e, (sAt 1 1).e, kRou.e,
     (sAt 0 0).e, (sAt 1 0).e, (sAt 2 0).e, kHar.e,
     (sAt 0 0).e, (sAt 0 0).e, (sAt 0 0).e, (sAt 1 0).e, kTri.e,
     (sAt 1 0).e, kBad.e,
     (sR4Int (-1) 0).e, (sR4Int 3 0).e, (sR4Over (z := gint (-1) 0) (w := gint 3 0) (GSz.int (by decide) (by decide)).le (GSz.int (by decide) (by decide)).le (by kernel_rfl)).e,
     (sR4Int 1 0).e, (sR4Int 2 0).e, (sR4Over (z := gint 1 0) (w := gint 2 0) (GSz.int (by decide) (by decide)).le (GSz.int (by decide) (by decide)).le (by kernel_rfl)).e,
     (sR7Of third).e, eqP2 (ptB_self (.fin third)), (sNum 0).e, (sR7Of half).e, eqP2 (ptB_self (.fin half)), (sNum 0).e, sOne8.e, eqMC mOne, (sNum 0).e, (sNum 0).e, sR7Inf.e, eqP2 (ptB_self .inf), (sNum 0).e, (sNum 200).e, (sNum 2).e]
    [(10, 59)] 3000 Tryz.func44 hmA (by kernel_rfl) (fun β => by kernel_rfl)
end Go.Proofs.YtiolbdleihiocaaGreat
end
section
namespace Go.Proofs.YtiolbdleihiocaaGreat
open Go Go.RowKit
set_option maxRecDepth 100000
def sPMayW (p : Pp) {b : Bool} (hb : p.B = b) : Spec Tryz.prog :=
  (sPMay p).as [svR p.rI p.rX p.rY] (svB b) (congrArg (fun l => [SV.one (.a l)]) (Pp.C_raw p)) (congrArg svB hb)
def sPMayP (p : Pt) (h : FitP p) : Spec Tryz.prog :=
  (sPMay (ppt p h)).as [svP p] (svB true) (congrArg (fun l => [SV.one (.a l)]) (ppt_C p h)) (congrArg svB (ppt_B p h))
def sR10Ratio {p q r s : Pt} (hp : PSz KQ p) (hq : PSz KQ q) (hr : PSz KQ r) (hs : PSz KQ s) {f : Bool} (hf : gzero (ratY p q r s) = f) : Spec Tryz.prog :=
  Spec.auto Tryz.call162 [.one (.a (p.w.C ++ q.w.C ++ r.w.C ++ s.w.C))] [] (svP (prat p q r s f)) []
    [(sR7Det hp.le hq.le).e, (sR7Det hr.le hs.le).e, (sR4Times (gacross_sz hp hq (by decide)).le (gacross_sz hr hs (by decide)).le).e,
      (sR7Det hq.le hr.le).e, (sR7Det hs.le hp.le).e, (sR4Times (gacross_sz hq hr (by decide)).le (gacross_sz hs hp (by decide)).le).e,
      (sR7Ratio (x := ratX p q r s) (y := ratY p q r s) (ratX_sz hp hq hr hs (by decide)).le (ratY_sz hp hq hr hs (by decide)).le hf).e] [(1, 12), (2, 12)] 800 Tryz.func162 hmA (by kernel_rfl) (fun β => by kernel_rfl)
def pconj : Pt → Pt
  | .inf => .inf
  | .fin z => .fin (gconj z)
def sR7Conj (p : Pt) : Spec Tryz.prog :=
  ⟨85, Tryz.call85, [svP p], [], svP (pconj p), [], fun β w hh => by
    cases p
    · exact spec_auto (evs := []) (Ns := []) (m := 400) Tryz.func85 hmA (fun β => by kernel_rfl) (by kernel_rfl) β w hh
    · rename_i z
      exact spec_auto (evs := [(sR4Conj z).e, (sR7Of (gconj z)).e]) (Ns := []) (m := 400) Tryz.func85 hmA (fun β => by kernel_rfl) (by kernel_rfl) β w hh, by kernel_rfl⟩
theorem all4_ok (p q r s : Pp) {b : Bool} (hb : (p.B && (q.B && (r.B && s.B))) = b) (β : Env) (w : World) (hh : (Ob.box (p.w.C ++ q.w.C ++ r.w.C ++ s.w.C) 29).holds β w (β 0)) :
    Calls Tryz.prog 24 (([.one (.c (.b (.s 0 0 4 4)))] : List SV).map (SV.den β)).toArray w fun e w' => e = .returned (.bool b) ∧ Below w.heap.size w w' := by
  cases h1 : p.B with
  | false =>
    obtain rfl : b = false := by rw [← hb, h1]; rfl
    exact bspec_ok [(sR7May p h1).e] [] 800 Tryz.func24 hmA (fun β => by kernel_rfl) (by kernel_rfl) (fun β => rfl) β w hh
  | true => cases h2 : q.B with
  | false =>
    obtain rfl : b = false := by rw [← hb, h1, h2]; rfl
    exact bspec_ok [(sR7May p h1).e, (sR7May q h2).e] [] 800 Tryz.func24 hmA (fun β => by kernel_rfl) (by kernel_rfl) (fun β => rfl) β w hh
  | true => cases h3 : r.B with
  | false =>
    obtain rfl : b = false := by rw [← hb, h1, h2, h3]; rfl
    exact bspec_ok [(sR7May p h1).e, (sR7May q h2).e, (sR7May r h3).e] [] 800 Tryz.func24 hmA (fun β => by kernel_rfl) (by kernel_rfl) (fun β => rfl) β w hh
  | true =>
    obtain rfl : b = s.B := by rw [← hb, h1, h2, h3]; rfl
    cases h4 : s.B <;> exact bspec_ok [(sR7May p h1).e, (sR7May q h2).e, (sR7May r h3).e, (sR7May s h4).e] [] 800 Tryz.func24 hmA (fun β => by kernel_rfl) (by kernel_rfl) (fun β => rfl) β w hh
def sR7All4 (p q r s : Pp) {b : Bool} (hb : (p.B && (q.B && (r.B && s.B))) = b) : BSpec Tryz.prog :=
  ⟨24, Tryz.call24, [.one (.c (.b (.s 0 0 4 4)))], p.w.C ++ q.w.C ++ r.w.C ++ s.w.C, 29, .bool b, all4_ok p q r s hb, by kernel_rfl, fun _ => rfl⟩
def sR7All4Ok {p q r s : Pt} (hp : FitP p) (hq : FitP q) (hr : FitP r) (hs : FitP s) : BSpec Tryz.prog :=
  ⟨24, Tryz.call24, [.one (.c (.b (.s 0 0 4 4)))], p.w.C ++ q.w.C ++ r.w.C ++ s.w.C, 29, .bool true, fun β w hh => all4_ok (ppt p hp) (ppt q hq) (ppt r hr) (ppt s hs) (by rw [ppt_B, ppt_B, ppt_B, ppt_B]; rfl) β w (by rw [ppt_w, ppt_w, ppt_w, ppt_w]; exact hh), by kernel_rfl, fun _ => rfl⟩
end Go.Proofs.YtiolbdleihiocaaGreat
end
section
namespace Go.Proofs.YtiolbdleihiocaaGreat.Y
open Go Go.RowKit
set_option maxRecDepth 100000
abbrev a4 (p q r s : Rw) : SV := .one (.a (lsX (p.C ++ q.C ++ r.C ++ s.C)))
abbrev nI (k : Int) : SC := .c (.b (.v (.int .i64 k)))
def nP : List Lf := [.b (.v (.bool false)), .b (.v (.pointer none)), .b (.v (.pointer none))]
noncomputable def mayW (p : Pp) {b : Bool} (hb : p.B = b) : Ev Tryz.prog := (Spec.ofX (sPMayW p hb) rfl rfl).e
noncomputable def mayP (p : Pt) (h : FitP p) : Ev Tryz.prog := (Spec.ofX (sPMayP p h) rfl rfl).e
noncomputable def openCE (p q r s : Pp) {a b c d : Bool} (ha : p.B = a) (hb : q.B = b) (hc : r.B = c) (hd : s.B = d) : List (Ev Tryz.prog) :=
  (sSpotW p ha).e :: (bif a then mayW p ha :: (sSpotW q hb).e :: (bif b then mayW q hb :: (sSpotW r hc).e :: (bif c then mayW r hc :: (sSpotW s hd).e :: [] else []) else []) else [])
noncomputable def sOpenC0 (p q r s : Pp) {a b c d : Bool} (ha : p.B = a) (hb : q.B = b) (hc : r.B = c) (hd : s.B = d) (h : (a && (b && (c && d))) = false) : Spec Tryz.prog :=
  ⟨156, Tryz.call156, [a4 p.w q.w r.w s.w], [], .tup [.a (nP ++ nP ++ nP ++ nP), nI 2], [], fun β w hh => by
    cases a
    · exact spec_auto (evs := openCE p q r s ha hb hc hd) (Ns := []) (m := 1200) Tryz.func156 hmA (fun β => by kernel_rfl) (by kernel_rfl) β w hh
    · cases b
      · exact spec_auto (evs := openCE p q r s ha hb hc hd) (Ns := []) (m := 1200) Tryz.func156 hmA (fun β => by kernel_rfl) (by kernel_rfl) β w hh
      · cases c
        · exact spec_auto (evs := openCE p q r s ha hb hc hd) (Ns := []) (m := 1200) Tryz.func156 hmA (fun β => by kernel_rfl) (by kernel_rfl) β w hh
        · cases d
          · exact spec_auto (evs := openCE p q r s ha hb hc hd) (Ns := []) (m := 1200) Tryz.func156 hmA (fun β => by kernel_rfl) (by kernel_rfl) β w hh
          · exact Bool.noConfusion h, by kernel_rfl⟩
abbrev four4 (p q r s : Pt) : SC := .a (pL 0 p ++ pL 2 q ++ pL 4 r ++ pL 6 s)
abbrev four4T (p q r s : Pt) : List Thing := pM p ++ pM q ++ pM r ++ pM s
section
variable {p q r s : Pt} (hp : FitP p) (hq : FitP q) (hr : FitP r) (hs : FitP s)
noncomputable def sOpenC : Spec Tryz.prog :=
  Spec.auto Tryz.call156 [a4 p.w q.w r.w s.w] [] (.tup [four4 p q r s, nI 0]) (four4T p q r s)
    [(sSpotP p hp).e, mayP p hp, (sSpotP q hq).e, mayP q hq, (sSpotP r hr).e, mayP r hr, (sSpotP s hs).e, mayP s hs] [] 1200 Tryz.func156 hmA (by kernel_rfl) (fun β => by kernel_rfl)
def ratE {f : Bool} (hf : gzero (ratY p q r s) = f) : List (Ev Tryz.prog) :=
  [(sAcross (hp.sz.mono (by decide)) (hq.sz.mono (by decide))).e, (sAcross (hr.sz.mono (by decide)) (hs.sz.mono (by decide))).e, mulE ((gacross_sz hp.sz hq.sz (by decide)).mono (by decide)) ((gacross_sz hr.sz hs.sz (by decide)).mono (by decide)),
    (sAcross (hq.sz.mono (by decide)) (hr.sz.mono (by decide))).e, (sAcross (hs.sz.mono (by decide)) (hp.sz.mono (by decide))).e, mulE ((gacross_sz hq.sz hr.sz (by decide)).mono (by decide)) ((gacross_sz hs.sz hp.sz (by decide)).mono (by decide)), (sZero (z := ratY p q r s) hf).e]
def ratD (hf : gzero (ratY p q r s) = false) : Ev Tryz.prog := (sDiv (z := ratX p q r s) (w := ratY p q r s) ((ratX_sz hp.sz hq.sz hr.sz hs.sz (by decide)).mono (by decide)) ((ratY_sz hp.sz hq.sz hr.sz hs.sz (by decide)).mono (by decide)) hf).e
def sRat4 {f : Bool} (hf : gzero (ratY p q r s) = f) : Spec Tryz.prog :=
  ⟨158, Tryz.call158, [.one (four4 p q r s)], four4T p q r s, pV 8 (prat p q r s f), pM (prat p q r s f), fun β w hh => by
    cases f
    · exact spec_auto (obs := four4T p q r s) (evs := ratE hp hq hr hs hf ++ [ratD hp hq hr hs hf]) (Ns := [(1, 12), (2, 12)]) (m := 800) Tryz.func158 hmA (fun β => by kernel_rfl) (by kernel_rfl) β w hh
    · exact nilpair (r := (SV.one (.a [.b (.v (.bool true)), .b (.v (.pointer none)), .b (.v (.pointer none))])).den) (r' := (pV 8 .inf).den) (spec_auto (obs := four4T p q r s) (args := [.one (four4 p q r s)]) (res := .one (.a [.b (.v (.bool true)), .b (.v (.pointer none)), .b (.v (.pointer none))])) (news := []) (evs := ratE hp hq hr hs hf) (Ns := [(1, 12), (2, 12)]) (m := 800) Tryz.func158 hmA (fun β => by kernel_rfl) (by kernel_rfl) β w hh) (by kernel_rfl), by
    kernel_rfl⟩
end
theorem g00 : gint 0 0 = g0 := gq_lit (by kernel_rfl) (by kernel_rfl)
theorem g0_fit : FitG g0 := by rw [← g00]; exact fit_int (by decide) (by decide)
theorem mid_fit (t : Bool) : FitM (mid t) := ⟨fit_int (by decide) (by decide), g0_fit, g0_fit, fit_int (by decide) (by decide)⟩
theorem mid_nrm (t : Bool) : Nrm (mid t) := by
  unfold Nrm mid
  rw [gz_true.2 rfl]
  exact gint10
theorem mid_may : MayQ (mid false) := ⟨mid_fit false, by kernel_rfl, .inr ⟨by kernel_rfl, by kernel_rfl⟩⟩
noncomputable def sToldId : Spec Tryz.prog :=
  ⟨111, Tryz.call111, [mV 0 (mid false)], mM (mid false), .tup [.a (lsX (mC (mid false))), nI 0], [], fun β w hh => by
    have k := (sToldN (m := mid false) ((fitM_sz (mid_fit false)).mono (by decide)) (mid_nrm false)).ok β w hh
    rw [show (sToldN (m := mid false) ((fitM_sz (mid_fit false)).mono (by decide)) (mid_nrm false)).res = .tup [.a (lsX (mC (mid false))), nI 0] by
      show SV.tup [.a (lsX (maC (mid false))), nI (maK (mid false))] = _
      rw [(maC_fit (mid_fit false)).1, (maC_fit (mid_fit false)).2]] at k
    exact k, by kernel_rfl⟩
noncomputable def sOne : Spec Tryz.prog :=
  Spec.auto Tryz.call42 [] [] (.one (.a (lsX (mC (mid false))))) [] [sStill.e, sToldId.e] [] 400 Tryz.func42 hmA (by kernel_rfl) (fun β => by kernel_rfl)
noncomputable def sMirrored : Spec Tryz.prog :=
  Spec.auto Tryz.call159 [] [] (mV 0 (mid true)) (mM (mid true)) [sOne.e, (sOpenYes mid_may).e] [] 400 Tryz.func159 hmA (by kernel_rfl) (fun β => by kernel_rfl)
end Go.Proofs.YtiolbdleihiocaaGreat.Y
end
section
namespace Go.Proofs.YtiolbdleihiocaaGreat.Y
open Go Go.RowKit
set_option maxRecDepth 100000
abbrev res3 (a b : Bool) (k : Int) : SV := .tup [.c (.b (.v (.bool a))), .c (.b (.v (.bool b))), nI k]
noncomputable def sAlike2a (p q r s p' q' r' s' : Pp) (h : (p.B && (q.B && (r.B && s.B))) = false) (h' : (p'.B && (q'.B && (r'.B && s'.B))) = false) : Spec Tryz.prog :=
  Spec.auto Tryz.call59 [a4 p.w q.w r.w s.w, a4 p'.w q'.w r'.w s'.w] [] (res3 false false 2) []
    [(sOpenC0 p q r s rfl rfl rfl rfl h).e, (sOpenC0 p' q' r' s' rfl rfl rfl rfl h').e] [(13, 15), (17, 6), (18, 4), (19, 9)] 1200 Tryz.func59 hmA (by kernel_rfl) (fun β => by kernel_rfl)
noncomputable def sAlike2b (p q r s : Pp) {p' q' r' s' : Pt} (h : (p.B && (q.B && (r.B && s.B))) = false) (hp : FitP p') (hq : FitP q') (hr : FitP r') (hs : FitP s') : Spec Tryz.prog :=
  Spec.auto Tryz.call59 [a4 p.w q.w r.w s.w, a4 p'.w q'.w r'.w s'.w] [] (res3 false false 2) []
    [(sOpenC0 p q r s rfl rfl rfl rfl h).e, (sOpenC hp hq hr hs).e] [(13, 15), (17, 6), (18, 4), (19, 9)] 1200 Tryz.func59 hmA (by kernel_rfl) (fun β => by kernel_rfl)
noncomputable def sAlike2c {p q r s : Pt} (p' q' r' s' : Pp) (hp : FitP p) (hq : FitP q) (hr : FitP r) (hs : FitP s) (h' : (p'.B && (q'.B && (r'.B && s'.B))) = false) : Spec Tryz.prog :=
  Spec.auto Tryz.call59 [a4 p.w q.w r.w s.w, a4 p'.w q'.w r'.w s'.w] [] (res3 false false 2) []
    [(sOpenC hp hq hr hs).e, (sOpenC0 p' q' r' s' rfl rfl rfl rfl h').e] [(13, 15), (17, 6), (18, 4), (19, 9)] 1200 Tryz.func59 hmA (by kernel_rfl) (fun β => by kernel_rfl)
section
variable {p q r s p' q' r' s' : Pt} (hp : FitP p) (hq : FitP q) (hr : FitP r) (hs : FitP s) (hp' : FitP p') (hq' : FitP q') (hr' : FitP r') (hs' : FitP s')
variable {a b c d e f a' b' c' d' e' f' : Bool} (ha : ptB p q = a) (hb : ptB p r = b) (hc : ptB p s = c) (hd : ptB q r = d) (he : ptB q s = e) (hf : ptB r s = f) (ha' : ptB p' q' = a') (hb' : ptB p' r' = b') (hc' : ptB p' s' = c') (hd' : ptB q' r' = d') (he' : ptB q' s' = e') (hf' : ptB r' s' = f')
theorem gtY {n m : Int} {t : Bool} (h : decide (m < n) = t) : Value.bool (decide (m < n)) = .bool t := by rw [h]
noncomputable def most1E {t : Bool} (ht : decide (2 < mostI a b c d e f) = t) : List (Ev Tryz.prog) := [(Spec.ofX (sMost ha hb hc hd he hf) rfl rfl).e, .eqv 36 (.bool (decide (2 < mostI a b c d e f))) (.bool t) (gtY ht)]
noncomputable def most2E {t : Bool} (ht : decide (2 < mostI a b c d e f) = t) : List (Ev Tryz.prog) := [(Spec.ofX (sMost ha hb hc hd he hf) rfl rfl).e, .eqv 40 (.bool (decide (2 < mostI a b c d e f))) (.bool t) (gtY ht)]
noncomputable def sAlikeTri1 (ht : decide (2 < mostI a b c d e f) = true) : Spec Tryz.prog :=
  Spec.auto Tryz.call59 [a4 p.w q.w r.w s.w, a4 p'.w q'.w r'.w s'.w] [] (res3 false false 200) []
    ([(sOpenC hp hq hr hs).e, (sOpenC hp' hq' hr' hs').e] ++ most1E ha hb hc hd he hf ht) [(13, 15), (17, 6), (18, 4), (19, 9)] 1200 Tryz.func59 hmA (by kernel_rfl) (fun β => by kernel_rfl)
noncomputable def sAlikeTri2 (ht : decide (2 < mostI a b c d e f) = false) (ht' : decide (2 < mostI a' b' c' d' e' f') = true) : Spec Tryz.prog :=
  Spec.auto Tryz.call59 [a4 p.w q.w r.w s.w, a4 p'.w q'.w r'.w s'.w] [] (res3 false false 200) []
    ([(sOpenC hp hq hr hs).e, (sOpenC hp' hq' hr' hs').e] ++ most1E ha hb hc hd he hf ht ++ most2E ha' hb' hc' hd' he' hf' ht') [(13, 15), (17, 6), (18, 4), (19, 9)] 1200 Tryz.func59 hmA (by kernel_rfl) (fun β => by kernel_rfl)
theorem neY {a b t : Bool} (h : (a != b) = t) : Value.bool (!(a == b)) = .bool t := by rw [← h]; rfl
def pairE {u v u' v' : Pt} {a b t : Bool} (h : ptB u v = a) (k : ptB u' v' = b) (e : (a != b) = t) : List (Ev Tryz.prog) := [eqEvPt (ptB_comm' h), eqEvPt (ptB_comm' k), .eqv 63 (.bool (!(a == b))) (.bool t) (neY e)]
variable (ht : decide (2 < mostI a b c d e f) = false) (ht' : decide (2 < mostI a' b' c' d' e' f') = false)
noncomputable def alikeE : List (Ev Tryz.prog) := [(sOpenC hp hq hr hs).e, (sOpenC hp' hq' hr' hs').e] ++ most1E ha hb hc hd he hf ht ++ most2E ha' hb' hc' hd' he' hf' ht'
noncomputable def sAlikeNo0 (e0 : (a != a') = true) : Spec Tryz.prog :=
  Spec.auto Tryz.call59 [a4 p.w q.w r.w s.w, a4 p'.w q'.w r'.w s'.w] [] (res3 false false 0) []
    (alikeE hp hq hr hs hp' hq' hr' hs' ha hb hc hd he hf ha' hb' hc' hd' he' hf' ht ht' ++ pairE ha ha' e0) [(13, 15), (17, 6), (18, 4), (19, 9)] 1200 Tryz.func59 hmA (by kernel_rfl) (fun β => by kernel_rfl)
noncomputable def sAlikeNo1 (e0 : (a != a') = false) (e1 : (b != b') = true) : Spec Tryz.prog :=
  Spec.auto Tryz.call59 [a4 p.w q.w r.w s.w, a4 p'.w q'.w r'.w s'.w] [] (res3 false false 0) []
    (alikeE hp hq hr hs hp' hq' hr' hs' ha hb hc hd he hf ha' hb' hc' hd' he' hf' ht ht' ++ pairE ha ha' e0 ++ pairE hb hb' e1) [(13, 15), (17, 6), (18, 4), (19, 9)] 1200 Tryz.func59 hmA (by kernel_rfl) (fun β => by kernel_rfl)
noncomputable def sAlikeNo2 (e0 : (a != a') = false) (e1 : (b != b') = false) (e2 : (d != d') = true) : Spec Tryz.prog :=
  Spec.auto Tryz.call59 [a4 p.w q.w r.w s.w, a4 p'.w q'.w r'.w s'.w] [] (res3 false false 0) []
    (alikeE hp hq hr hs hp' hq' hr' hs' ha hb hc hd he hf ha' hb' hc' hd' he' hf' ht ht' ++ pairE ha ha' e0 ++ pairE hb hb' e1 ++ pairE hd hd' e2) [(13, 15), (17, 6), (18, 4), (19, 9)] 1200 Tryz.func59 hmA (by kernel_rfl) (fun β => by kernel_rfl)
noncomputable def sAlikeNo3 (e0 : (a != a') = false) (e1 : (b != b') = false) (e2 : (d != d') = false) (e3 : (c != c') = true) : Spec Tryz.prog :=
  Spec.auto Tryz.call59 [a4 p.w q.w r.w s.w, a4 p'.w q'.w r'.w s'.w] [] (res3 false false 0) []
    (alikeE hp hq hr hs hp' hq' hr' hs' ha hb hc hd he hf ha' hb' hc' hd' he' hf' ht ht' ++ pairE ha ha' e0 ++ pairE hb hb' e1 ++ pairE hd hd' e2 ++ pairE hc hc' e3) [(13, 15), (17, 6), (18, 4), (19, 9)] 1200 Tryz.func59 hmA (by kernel_rfl) (fun β => by kernel_rfl)
noncomputable def sAlikeNo4 (e0 : (a != a') = false) (e1 : (b != b') = false) (e2 : (d != d') = false) (e3 : (c != c') = false) (e4 : (e != e') = true) : Spec Tryz.prog :=
  Spec.auto Tryz.call59 [a4 p.w q.w r.w s.w, a4 p'.w q'.w r'.w s'.w] [] (res3 false false 0) []
    (alikeE hp hq hr hs hp' hq' hr' hs' ha hb hc hd he hf ha' hb' hc' hd' he' hf' ht ht' ++ pairE ha ha' e0 ++ pairE hb hb' e1 ++ pairE hd hd' e2 ++ pairE hc hc' e3 ++ pairE he he' e4) [(13, 15), (17, 6), (18, 4), (19, 9)] 1200 Tryz.func59 hmA (by kernel_rfl) (fun β => by kernel_rfl)
noncomputable def sAlikeNo5 (e0 : (a != a') = false) (e1 : (b != b') = false) (e2 : (d != d') = false) (e3 : (c != c') = false) (e4 : (e != e') = false) (e5 : (f != f') = true) : Spec Tryz.prog :=
  Spec.auto Tryz.call59 [a4 p.w q.w r.w s.w, a4 p'.w q'.w r'.w s'.w] [] (res3 false false 0) []
    (alikeE hp hq hr hs hp' hq' hr' hs' ha hb hc hd he hf ha' hb' hc' hd' he' hf' ht ht' ++ pairE ha ha' e0 ++ pairE hb hb' e1 ++ pairE hd hd' e2 ++ pairE hc hc' e3 ++ pairE he he' e4 ++ pairE hf hf' e5) [(13, 15), (17, 6), (18, 4), (19, 9)] 1200 Tryz.func59 hmA (by kernel_rfl) (fun β => by kernel_rfl)
noncomputable def sAlikeYes (e0 : (a != a') = false) (e1 : (b != b') = false) (e2 : (d != d') = false) (e3 : (c != c') = false) (e4 : (e != e') = false) (e5 : (f != f') = false) {g g' : Bool} (hg : gzero (ratY p q r s) = g) (hg' : gzero (ratY p' q' r' s') = g') {k : Bool} (hk : gzero (msD (mid true) (prat p q r s g)) = k) (z : PSz KE (prat p q r s g)) (z' : PSz KE (prat p' q' r' s' g')) (z2 : PSz KE (msend (mid true) (prat p q r s g) k)) : Spec Tryz.prog :=
  Spec.auto Tryz.call59 [a4 p.w q.w r.w s.w, a4 p'.w q'.w r'.w s'.w] [] (res3 (sameP (prat p q r s g) (prat p' q' r' s' g')) (sameP (msend (mid true) (prat p q r s g) k) (prat p' q' r' s' g')) 0) []
    (alikeE hp hq hr hs hp' hq' hr' hs' ha hb hc hd he hf ha' hb' hc' hd' he' hf' ht ht' ++ pairE ha ha' e0 ++ pairE hb hb' e1 ++ pairE hd hd' e2 ++ pairE hc hc' e3 ++ pairE he he' e4 ++ pairE hf hf' e5 ++
      [(sRat4 hp hq hr hs hg).e, (sRat4 hp' hq' hr' hs' hg').e, sMirrored.e, (sSend ((fitM_sz (mid_fit true)).mono (by decide)) z hk).e, (sSameP _ _ z z').e, (sSameP _ _ z2 z').e]) [(13, 15), (17, 6), (18, 4), (19, 9)] 1200 Tryz.func59 hmA (by kernel_rfl) (fun β => by kernel_rfl)
end
end Go.Proofs.YtiolbdleihiocaaGreat.Y
end
section
namespace Go.Proofs.YtiolbdleihiocaaGreat
open Go Go.RowKit
set_option maxRecDepth 100000
section
variable {p q r s : Pt} {a b c d e f : Bool} (ha : ptB p q = a) (hb : ptB p r = b) (hc : ptB p s = c) (hd : ptB q r = d) (he : ptB q s = e) (hf : ptB r s = f)
def few3 (a b c : Bool) : Bool := (a && b) || (a && c) || (b && c)
def triE : List (Ev Tryz.prog) := [eqP2 (ptB_self p), eqP2 (ptB_comm' ha), eqP2 (ptB_comm' hb), eqP2 (ptB_comm' hc)] ++ (bif few3 a b c then [] else [eqP2 ha, eqP2 (ptB_self q), eqP2 (ptB_comm' hd), eqP2 (ptB_comm' he)] ++ (bif few3 a d e then [] else [eqP2 hb, eqP2 hd, eqP2 (ptB_self r), eqP2 (ptB_comm' hf)] ++ (bif few3 b d f then [] else [eqP2 hc, eqP2 he, eqP2 hf, eqP2 (ptB_self s)])))
end
noncomputable def triL (p q r s : Pt) (a b c d e f : Bool) (ha : ptB p q = a) (hb : ptB p r = b) (hc : ptB p s = c) (hd : ptB q r = d) (he : ptB q s = e) (hf : ptB r s = f) (β : Env) : List Tm := (specA Tryz.prog Tryz.f161 (mostA p q r s) [] (triE ha hb hc hd he hf) [(8, 7)] 3000 (svB (decide (2 < mostI a b c d e f))) [] β).map Prod.fst
noncomputable def triR (p q r s : Pt) (a b c d e f : Bool) (ha : ptB p q = a) (hb : ptB p r = b) (hc : ptB p s = c) (hd : ptB q r = d) (he : ptB q s = e) (hf : ptB r s = f) (β : Env) : List Tm := (specA Tryz.prog Tryz.f161 (mostA p q r s) [] (triE ha hb hc hd he hf) [(8, 7)] 3000 (svB (decide (2 < mostI a b c d e f))) [] β).map Prod.snd
theorem tri_0 (p q r s : Pt) (ha : ptB p q = false) (hb : ptB p r = false) (hc : ptB p s = false) (hd : ptB q r = false) (he : ptB q s = false) (hf : ptB r s = false) (β : Env) : triL p q r s false false false false false false ha hb hc hd he hf β = triR p q r s false false false false false false ha hb hc hd he hf β := by kernel_rfl
theorem tri_1 (p q r s : Pt) (ha : ptB p q = false) (hb : ptB p r = false) (hc : ptB p s = false) (hd : ptB q r = false) (he : ptB q s = false) (hf : ptB r s = true) (β : Env) : triL p q r s false false false false false true ha hb hc hd he hf β = triR p q r s false false false false false true ha hb hc hd he hf β := by kernel_rfl
theorem tri_2 (p q r s : Pt) (ha : ptB p q = false) (hb : ptB p r = false) (hc : ptB p s = false) (hd : ptB q r = false) (he : ptB q s = true) (hf : ptB r s = false) (β : Env) : triL p q r s false false false false true false ha hb hc hd he hf β = triR p q r s false false false false true false ha hb hc hd he hf β := by kernel_rfl
theorem tri_3 (p q r s : Pt) (ha : ptB p q = false) (hb : ptB p r = false) (hc : ptB p s = false) (hd : ptB q r = true) (he : ptB q s = false) (hf : ptB r s = false) (β : Env) : triL p q r s false false false true false false ha hb hc hd he hf β = triR p q r s false false false true false false ha hb hc hd he hf β := by kernel_rfl
theorem tri_4 (p q r s : Pt) (ha : ptB p q = false) (hb : ptB p r = false) (hc : ptB p s = false) (hd : ptB q r = true) (he : ptB q s = true) (hf : ptB r s = true) (β : Env) : triL p q r s false false false true true true ha hb hc hd he hf β = triR p q r s false false false true true true ha hb hc hd he hf β := by kernel_rfl
theorem tri_5 (p q r s : Pt) (ha : ptB p q = false) (hb : ptB p r = false) (hc : ptB p s = true) (hd : ptB q r = false) (he : ptB q s = false) (hf : ptB r s = false) (β : Env) : triL p q r s false false true false false false ha hb hc hd he hf β = triR p q r s false false true false false false ha hb hc hd he hf β := by kernel_rfl
theorem tri_6 (p q r s : Pt) (ha : ptB p q = false) (hb : ptB p r = false) (hc : ptB p s = true) (hd : ptB q r = true) (he : ptB q s = false) (hf : ptB r s = false) (β : Env) : triL p q r s false false true true false false ha hb hc hd he hf β = triR p q r s false false true true false false ha hb hc hd he hf β := by kernel_rfl
theorem tri_7 (p q r s : Pt) (ha : ptB p q = false) (hb : ptB p r = true) (hc : ptB p s = false) (hd : ptB q r = false) (he : ptB q s = false) (hf : ptB r s = false) (β : Env) : triL p q r s false true false false false false ha hb hc hd he hf β = triR p q r s false true false false false false ha hb hc hd he hf β := by kernel_rfl
theorem tri_8 (p q r s : Pt) (ha : ptB p q = false) (hb : ptB p r = true) (hc : ptB p s = false) (hd : ptB q r = false) (he : ptB q s = true) (hf : ptB r s = false) (β : Env) : triL p q r s false true false false true false ha hb hc hd he hf β = triR p q r s false true false false true false ha hb hc hd he hf β := by kernel_rfl
theorem tri_9 (p q r s : Pt) (ha : ptB p q = false) (hb : ptB p r = true) (hc : ptB p s = true) (hd : ptB q r = false) (he : ptB q s = false) (hf : ptB r s = true) (β : Env) : triL p q r s false true true false false true ha hb hc hd he hf β = triR p q r s false true true false false true ha hb hc hd he hf β := by kernel_rfl
theorem tri_10 (p q r s : Pt) (ha : ptB p q = true) (hb : ptB p r = false) (hc : ptB p s = false) (hd : ptB q r = false) (he : ptB q s = false) (hf : ptB r s = false) (β : Env) : triL p q r s true false false false false false ha hb hc hd he hf β = triR p q r s true false false false false false ha hb hc hd he hf β := by kernel_rfl
theorem tri_11 (p q r s : Pt) (ha : ptB p q = true) (hb : ptB p r = false) (hc : ptB p s = false) (hd : ptB q r = false) (he : ptB q s = false) (hf : ptB r s = true) (β : Env) : triL p q r s true false false false false true ha hb hc hd he hf β = triR p q r s true false false false false true ha hb hc hd he hf β := by kernel_rfl
theorem tri_12 (p q r s : Pt) (ha : ptB p q = true) (hb : ptB p r = false) (hc : ptB p s = true) (hd : ptB q r = false) (he : ptB q s = true) (hf : ptB r s = false) (β : Env) : triL p q r s true false true false true false ha hb hc hd he hf β = triR p q r s true false true false true false ha hb hc hd he hf β := by kernel_rfl
theorem tri_13 (p q r s : Pt) (ha : ptB p q = true) (hb : ptB p r = true) (hc : ptB p s = false) (hd : ptB q r = true) (he : ptB q s = false) (hf : ptB r s = false) (β : Env) : triL p q r s true true false true false false ha hb hc hd he hf β = triR p q r s true true false true false false ha hb hc hd he hf β := by kernel_rfl
theorem tri_14 (p q r s : Pt) (ha : ptB p q = true) (hb : ptB p r = true) (hc : ptB p s = true) (hd : ptB q r = true) (he : ptB q s = true) (hf : ptB r s = true) (β : Env) : triL p q r s true true true true true true ha hb hc hd he hf β = triR p q r s true true true true true true ha hb hc hd he hf β := by kernel_rfl
theorem tri_all (p q r s : Pt) (a b c d e f : Bool) (ha : ptB p q = a) (hb : ptB p r = b) (hc : ptB p s = c) (hd : ptB q r = d) (he : ptB q s = e) (hf : ptB r s = f) (β : Env) : triL p q r s a b c d e f ha hb hc hd he hf β = triR p q r s a b c d e f ha hb hc hd he hf β := by
  cases a
  · cases b
    · cases c
      · cases d
        · cases e
          · cases f
            · exact tri_0 p q r s ha hb hc hd he hf β
            · exact tri_1 p q r s ha hb hc hd he hf β
          · cases f
            · exact tri_2 p q r s ha hb hc hd he hf β
            · exact (tri3 hd hf he).elim
        · cases e
          · cases f
            · exact tri_3 p q r s ha hb hc hd he hf β
            · exact (tri1 hd hf he).elim
          · cases f
            · exact (tri2 hd hf he).elim
            · exact tri_4 p q r s ha hb hc hd he hf β
      · cases d
        · cases e
          · cases f
            · exact tri_5 p q r s ha hb hc hd he hf β
            · exact (tri3 hb hf hc).elim
          · exact (tri3 ha he hc).elim
        · cases e
          · cases f
            · exact tri_6 p q r s ha hb hc hd he hf β
            · exact (tri3 hb hf hc).elim
          · exact (tri3 ha he hc).elim
    · cases c
      · cases d
        · cases e
          · cases f
            · exact tri_7 p q r s ha hb hc hd he hf β
            · exact (tri1 hb hf hc).elim
          · cases f
            · exact tri_8 p q r s ha hb hc hd he hf β
            · exact (tri1 hb hf hc).elim
        · exact (tri3 ha hd hb).elim
      · cases d
        · cases e
          · cases f
            · exact (tri2 hb hf hc).elim
            · exact tri_9 p q r s ha hb hc hd he hf β
          · exact (tri3 ha he hc).elim
        · exact (tri3 ha hd hb).elim
  · cases b
    · cases c
      · cases d
        · cases e
          · cases f
            · exact tri_10 p q r s ha hb hc hd he hf β
            · exact tri_11 p q r s ha hb hc hd he hf β
          · exact (tri1 ha he hc).elim
        · exact (tri1 ha hd hb).elim
      · cases d
        · cases e
          · exact (tri2 ha he hc).elim
          · cases f
            · exact tri_12 p q r s ha hb hc hd he hf β
            · exact (tri3 hb hf hc).elim
        · exact (tri1 ha hd hb).elim
    · cases c
      · cases d
        · exact (tri2 ha hd hb).elim
        · cases e
          · cases f
            · exact tri_13 p q r s ha hb hc hd he hf β
            · exact (tri1 hb hf hc).elim
          · exact (tri1 ha he hc).elim
      · cases d
        · exact (tri2 ha hd hb).elim
        · cases e
          · exact (tri2 ha he hc).elim
          · cases f
            · exact (tri2 hb hf hc).elim
            · exact tri_14 p q r s ha hb hc hd he hf β
section
variable {p q r s : Pt} {a b c d e f : Bool} (ha : ptB p q = a) (hb : ptB p r = b) (hc : ptB p s = c) (hd : ptB q r = d) (he : ptB q s = e) (hf : ptB r s = f)
noncomputable def sR10Tri0 : Spec Tryz.prog :=
  Spec.auto Tryz.call161 (mostA p q r s) [] (svB (decide (2 < mostI a b c d e f))) [] (triE ha hb hc hd he hf) [(8, 7)] 3000 Tryz.func161 hmA (by kernel_rfl) (fun β => tri_all p q r s a b c d e f ha hb hc hd he hf β)
noncomputable def sR10Tri {t : Bool} (ht : decide (2 < mostI a b c d e f) = t) : Spec Tryz.prog := (sR10Tri0 ha hb hc hd he hf).as (mostA p q r s) (svB t) rfl (congrArg svB ht)
variable (hp : FitP p) (hq : FitP q) (hr : FitP r) (hs : FitP s)
noncomputable def sWrong {t : Bool} (ht : decide (2 < mostI a b c d e f) = t) : Spec Tryz.prog :=
  Spec.auto Tryz.call60 (mostA p q r s) [] (.one (svI (bif t then 200 else 0))) [] [(sR7All4Ok hp hq hr hs).e, (sR10Tri ha hb hc hd he hf ht).e] [] 800 Tryz.func60 hmA (by kernel_rfl) (fun β => by cases t <;> kernel_rfl)
end
noncomputable def sWrong2 (p q r s : Pp) (h : (p.B && (q.B && (r.B && s.B))) = false) : Spec Tryz.prog :=
  Spec.auto Tryz.call60 [.one (.a (p.w.C ++ q.w.C ++ r.w.C ++ s.w.C))] [] (.one (svI 2)) [] [(sR7All4 p q r s h).e] [] 800 Tryz.func60 hmA (by kernel_rfl) (fun β => by kernel_rfl)
theorem ne_lit {a b t : Bool} (h : (a != b) = t) : Value.bool (!(a == b)) = .bool t := by rw [← h]; rfl
def pairX {u v u' v' : Pt} {a b t : Bool} (h : ptB u v = a) (k : ptB u' v' = b) (e : (a != b) = t) : List (Ev Tryz.prog) := [eqP2 (ptB_comm' h), eqP2 (ptB_comm' k), .eqv 31 (.bool (!(a == b))) (.bool t) (ne_lit e)]
section
variable {p q r s p' q' r' s' : Pt}
variable {a b c d e f a' b' c' d' e' f' : Bool} (ha : ptB p q = a) (hb : ptB p r = b) (hc : ptB p s = c) (hd : ptB q r = d) (he : ptB q s = e) (hf : ptB r s = f) (ha' : ptB p' q' = a') (hb' : ptB p' r' = b') (hc' : ptB p' s' = c') (hd' : ptB q' r' = d') (he' : ptB q' s' = e') (hf' : ptB r' s' = f')
abbrev svBB (a b : Bool) : SV := .tup [.c (.b (.v (.bool a))), .c (.b (.v (.bool b)))]
noncomputable def sR10AlikeNo0 (e0 : (a != a') = true) : Spec Tryz.prog :=
  Spec.auto Tryz.call61 (mostA p q r s ++ mostA p' q' r' s') [] (svBB false false) [] (pairX ha ha' e0) [(7, 15), (9, 13)] 1200 Tryz.func61 hmA (by kernel_rfl) (fun β => by kernel_rfl)
noncomputable def sR10AlikeNo1 (e0 : (a != a') = false) (e1 : (b != b') = true) : Spec Tryz.prog :=
  Spec.auto Tryz.call61 (mostA p q r s ++ mostA p' q' r' s') [] (svBB false false) [] (pairX ha ha' e0 ++ pairX hb hb' e1) [(7, 15), (9, 13)] 1200 Tryz.func61 hmA (by kernel_rfl) (fun β => by kernel_rfl)
noncomputable def sR10AlikeNo2 (e0 : (a != a') = false) (e1 : (b != b') = false) (e2 : (d != d') = true) : Spec Tryz.prog :=
  Spec.auto Tryz.call61 (mostA p q r s ++ mostA p' q' r' s') [] (svBB false false) [] (pairX ha ha' e0 ++ pairX hb hb' e1 ++ pairX hd hd' e2) [(7, 15), (9, 13)] 1200 Tryz.func61 hmA (by kernel_rfl) (fun β => by kernel_rfl)
noncomputable def sR10AlikeNo3 (e0 : (a != a') = false) (e1 : (b != b') = false) (e2 : (d != d') = false) (e3 : (c != c') = true) : Spec Tryz.prog :=
  Spec.auto Tryz.call61 (mostA p q r s ++ mostA p' q' r' s') [] (svBB false false) [] (pairX ha ha' e0 ++ pairX hb hb' e1 ++ pairX hd hd' e2 ++ pairX hc hc' e3) [(7, 15), (9, 13)] 1200 Tryz.func61 hmA (by kernel_rfl) (fun β => by kernel_rfl)
noncomputable def sR10AlikeNo4 (e0 : (a != a') = false) (e1 : (b != b') = false) (e2 : (d != d') = false) (e3 : (c != c') = false) (e4 : (e != e') = true) : Spec Tryz.prog :=
  Spec.auto Tryz.call61 (mostA p q r s ++ mostA p' q' r' s') [] (svBB false false) [] (pairX ha ha' e0 ++ pairX hb hb' e1 ++ pairX hd hd' e2 ++ pairX hc hc' e3 ++ pairX he he' e4) [(7, 15), (9, 13)] 1200 Tryz.func61 hmA (by kernel_rfl) (fun β => by kernel_rfl)
noncomputable def sR10AlikeNo5 (e0 : (a != a') = false) (e1 : (b != b') = false) (e2 : (d != d') = false) (e3 : (c != c') = false) (e4 : (e != e') = false) (e5 : (f != f') = true) : Spec Tryz.prog :=
  Spec.auto Tryz.call61 (mostA p q r s ++ mostA p' q' r' s') [] (svBB false false) [] (pairX ha ha' e0 ++ pairX hb hb' e1 ++ pairX hd hd' e2 ++ pairX hc hc' e3 ++ pairX he he' e4 ++ pairX hf hf' e5) [(7, 15), (9, 13)] 1200 Tryz.func61 hmA (by kernel_rfl) (fun β => by kernel_rfl)
noncomputable def sR10AlikeYes (e0 : (a != a') = false) (e1 : (b != b') = false) (e2 : (d != d') = false) (e3 : (c != c') = false) (e4 : (e != e') = false) (e5 : (f != f') = false) (zp : PSz KQ p) (zq : PSz KQ q) (zr : PSz KQ r) (zs : PSz KQ s) (zp' : PSz KQ p') (zq' : PSz KQ q') (zr' : PSz KQ r') (zs' : PSz KQ s') {g g' : Bool} (hg : gzero (ratY p q r s) = g) (hg' : gzero (ratY p' q' r' s') = g') : Spec Tryz.prog :=
  Spec.auto Tryz.call61 (mostA p q r s ++ mostA p' q' r' s') [] (svBB (ptB (prat p q r s g) (prat p' q' r' s' g')) (ptB (pconj (prat p q r s g)) (prat p' q' r' s' g'))) []
    (pairX ha ha' e0 ++ pairX hb hb' e1 ++ pairX hd hd' e2 ++ pairX hc hc' e3 ++ pairX he he' e4 ++ pairX hf hf' e5 ++ [(sR10Ratio zp zq zr zs hg).e, (sR10Ratio zp' zq' zr' zs' hg').e, eqP2 (p := prat p q r s g) (q := prat p' q' r' s' g') rfl, (sR10Ratio zp zq zr zs hg).e, (sR7Conj (prat p q r s g)).e, (sR10Ratio zp' zq' zr' zs' hg').e, eqP2 (p := pconj (prat p q r s g)) (q := prat p' q' r' s' g') rfl]) [(7, 15), (9, 13)] 1200 Tryz.func61 hmA (by kernel_rfl) (fun β => by kernel_rfl)
end
end Go.Proofs.YtiolbdleihiocaaGreat
end
section
namespace Go.Proofs.YtiolbdleihiocaaGreat.Y
open Go Go.RowKit
theorem Spec.run {P : Program} (S : Spec P) (ho : S.obs = []) (hn : S.news = []) (w : World) :
    Calls P S.f (S.args.map (SV.den idE)).toArray w fun e w' => e = .returned (S.res.den idE) ∧ Below w.heap.size w w' := by
  refine (S.ok idE w (fun k t h => by rw [ho] at h; simp at h)).mono fun e w' ⟨xs, h1, he, hh, hb⟩ => ⟨?_, hb⟩
  rw [he]
  congr 1
  have hc := S.closed
  rw [ho, hn, Bool.and_eq_true] at hc
  exact SV.den_congr (fun k hk => by rw [Nat.blt_eq] at hk; simp at hk) _ hc.2
def Spec.toX {P : Program} (S : Spec P) (ho : S.obs = []) (hn : S.news = []) (args : List XSV) (res : XSV) (ha : args.map svX = S.args) (hr : svX res = S.res) (hc : (args.all (Go.Proofs.YtiolbdleihiocaaGreat.SV.of fun _ => false) && res.of fun _ => false) = true) : XSpec P :=
  ⟨S.f, fun a w => S.en a w, args, [], res, [], fun β w _ => by
    rw [Bool.and_eq_true] at hc
    have h1 := (all_den (svX_den (β := idE) (γ := β)) args hc.1).1
    rw [ha] at h1
    rw [← h1]
    refine (S.run ho hn w).mono fun e w' ⟨he, hb⟩ => ⟨[], (fun _ h => by cases h), List.nodup_nil, ?_, trivial, hb⟩
    rw [he, ← hr]
    exact congrArg Ending.returned (svX_den (β := idE) (γ := Go.Proofs.YtiolbdleihiocaaGreat.extE β 0 []) res hc.2).1, by
    rw [Bool.and_eq_true] at hc ⊢
    exact ⟨List.all_eq_true.2 fun x hx => Go.Proofs.YtiolbdleihiocaaGreat.SV.of_mono (fun k hk => by cases hk) _ (List.all_eq_true.1 hc.1 x hx), Go.Proofs.YtiolbdleihiocaaGreat.SV.of_mono (fun k hk => by cases hk) _ hc.2⟩⟩
end Go.Proofs.YtiolbdleihiocaaGreat.Y
end
