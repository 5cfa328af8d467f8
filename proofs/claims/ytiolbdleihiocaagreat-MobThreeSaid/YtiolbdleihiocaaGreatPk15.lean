/- Rs7, Rs10, Nrm, EyF, Rs8, MoA, MoB, MoC, TxB, MoD, EqM, L8, Wks, Yd, Thr, Open, OpnB. -/
import Derived.ProofKit
import Derived.OpenShut
import Derived.ShutString
import Derived.ChangeOld
import Derived.Below
import Derived.Test.YtiolbdleihiocaaGreatPk14
set_option linter.unnecessarySimpa false
set_option linter.unusedVariables false
set_option linter.unusedSimpArgs false
/- The references of layers 7 and 8, by what they do. -/
section
namespace Go.Proofs.YtiolbdleihiocaaGreat
open Go Go.RowKit
set_option maxRecDepth 100000

/-- A function that reads one block (a slice's), and answers a value without a place. -/
structure BSpec (P : Program) where
  f : FuncId
  en : Enters P f
  args : List SV
  cs : List Lf
  t : TypeId
  r : Value
  ok : ∀ β w, (Ob.box cs t).holds β w (β 0) → Calls P f (args.map (SV.den β)).toArray w fun e w' => e = .returned r ∧ Below w.heap.size w w'
  cl : (cs.all (Lf.of fun _ => false) && args.all (SV.of fun k => Nat.beq k 0)) = true
  hr : ∀ β, (tag r).den β = r
def bkOf : List SV → Nat
  | [] => 0
  | .one (.c (.b (.s k _ _ _))) :: _ => k
  | _ :: r => bkOf r
theorem cells_closed {β β' : Env} {cs : List Lf} (h : cs.all (Lf.of fun _ => false) = true) : cs.map (Lf.den β) = cs.map (Lf.den β') :=
  List.map_congr_left fun x hx => Lf.den_congr (q := fun _ => false) (fun k hk => by cases hk) x (List.all_eq_true.1 h x hx)
def BSpec.e {P : Program} (S : BSpec P) : Ev P := .dyn (fun o _ _ => isCallB o) fun _ xs ob => lit (bkOf xs) fun i =>
  .call S.f S.en (fun β => (S.args.map (SV.den fun _ => β i)).toArray) [(i, .box S.cs S.t)] 0 (tag S.r) [] (fun β w h => of_pure0 (by
    have hc := S.cl
    rw [Bool.and_eq_true] at hc
    refine S.ok (fun _ => β i) w ?_
    have h1 : w.heap[β i]? = some (.cells (S.cs.map (Lf.den β)).toArray S.t (0, 0)) := h _ (List.mem_singleton.2 rfl)
    show w.heap[β i]? = some (.cells (S.cs.map (Lf.den fun _ => β i)).toArray S.t (0, 0))
    rw [cells_closed (β' := β) hc.1]
    exact h1) S.hr)
/-- A way through such a function gone through. -/
theorem bspec_ok {P : Program} {f : FuncId} {fn : Func} {args : List SV} {cs : List Lf} {t : TypeId} {r : Value} (evs : List (Ev P)) (Ns : List (Nat × Nat)) (m : Nat) (hf : P.funcs[f]? = some fn) (hm : P.follows .mixedOrders = true)
    (h : ∀ β, (allS P fn args [.box cs t] evs Ns m (tag r) [] β).map Prod.fst = (allS P fn args [.box cs t] evs Ns m (tag r) [] β).map Prod.snd)
    (hB : (args.all (SV.of fun k => Nat.blt k 1) && [Ob.box cs t].all fun x => x.of (fun k => Nat.blt k 1) && x.own) = true) (hr : ∀ β, (tag r).den β = r) (β : Env) (w : World) (hh : (Ob.box cs t).holds β w (β 0)) :
    Calls P f (args.map (SV.den β)).toArray w fun e w' => e = .returned r ∧ Below w.heap.size w w' := by
  rw [Bool.and_eq_true] at hB
  refine (sx (P := P) args [.box cs t] evs Ns m (tag r) [] hf hm (fun β => ok_of_maps (h β)) hB.1 hB.2 β w (fun k hk => ?_) (fun k o ho => ?_)).mono ?_
  · obtain rfl : k = 0 := by simp only [List.length_singleton] at hk; omega
    exact heap_lt hh
  · cases k with
    | zero => simp only [List.getElem?_cons_zero] at ho; obtain rfl := Option.some.inj ho; exact hh
    | succ k => simp at ho
  · rintro e w' ⟨β', q, obj, e1, rfl, e2, e3, e4, e5, g⟩
    exact ⟨by rw [hr], g.bel⟩

-- layer 7
def Rw.C (r : Rw) : List Lf := rawC r.i r.x r.y
def Pp.may7E : Pp → List (Ev Tryz.prog)
  | .inf => []
  | .fin a b => [(sR4May a b).e]
  | .odd x y h => [eqEvP true true x y r40 r40 false (odd_ne h)]
def sR7May0 (p : Pp) : Spec Tryz.prog :=
  Spec.auto Tryz.call16 [.one (.a p.C)] [] (.one (.c (.b (.v (.bool p.B))))) []
    p.may7E [] 400 Tryz.func16 hmA (by rcases p with _ | ⟨_ | _, _ | _⟩ | _ <;> kernel_rfl) (fun β => by rcases p with _ | ⟨_ | _, _ | _⟩ | _ <;> kernel_rfl)
def sR7May (p : Pp) {b : Bool} (hb : p.B = b) : Spec Tryz.prog :=
  (sR7May0 p).as [svR p.rI p.rX p.rY] (.one (.c (.b (.v (.bool b))))) (congrArg (fun l => [SV.one (.a l)]) (Pp.C_raw p)) (congrArg (fun b => SV.one (.c (.b (.v (.bool b))))) hb)
-- layer 8
def sR8Normal {a b c d : GQ} (t : Bool) (h : MSz KE ⟨a, b, c, d, t⟩) {f : Bool} (hf : gzero c = f) (h0 : gzero (bif f then d else c) = false) : Spec Tryz.prog :=
  ⟨140, Tryz.call140, [svG a, svG b, svG c, svG d, .one (.c (.b (.v (.bool t))))], [], svM (mnormB ⟨a, b, c, d, t⟩ f), [], fun β w hh => by
    cases f
    · exact spec_auto (evs := [(sR4Zero c hf).e, (sR4Over h.a h.c h0).e, (sR4Over h.b h.c h0).e, (sR4Over h.c h.c h0).e, (sR4Over h.d h.c h0).e]) (Ns := [(4, 14)]) (m := 400) Tryz.func140 hmA (fun β => by kernel_rfl) (by kernel_rfl) β w hh
    · exact spec_auto (evs := [(sR4Zero c hf).e, (sR4Over h.a h.d h0).e, (sR4Over h.b h.d h0).e, (sR4Over h.c h.d h0).e, (sR4Over h.d h.d h0).e]) (Ns := [(4, 14)]) (m := 400) Tryz.func140 hmA (fun β => by kernel_rfl) (by kernel_rfl) β w hh, by kernel_rfl⟩
def sR8turned (z : GQ) (t : Bool) : Spec Tryz.prog :=
  ⟨155, Tryz.call155, [svG z, .one (.c (.b (.v (.bool t))))], [], svG (mcj t z), [], fun β w hh => by
    cases t
    · exact spec_auto (evs := []) (Ns := []) (m := 400) Tryz.func155 hmA (fun β => by kernel_rfl) (by kernel_rfl) β w hh
    · exact spec_auto (evs := [(sR4Conj z).e]) (Ns := []) (m := 400) Tryz.func155 hmA (fun β => by kernel_rfl) (by kernel_rfl) β w hh, by kernel_rfl⟩
def minv0 (m : MQ) : MQ := mconj (mundo0 m) m.t
theorem minv0_sz {k : Nat} {m : MQ} (h : MSz k m) : MSz k (minv0 m) := h.undo0.conj _
def sR8Inverse {m : MQ} (h : MSz KE m) {f : Bool} (hf : gzero (minv0 m).c = f) (h0 : gzero (bif f then (minv0 m).d else (minv0 m).c) = false) : Spec Tryz.prog :=
  Spec.auto Tryz.call57 [svM m] [] (svM (mnormB (minv0 m) f)) []
    [(sR8turned m.d m.t).e, (sR4Neg m.b).e, (sR8turned (gneg m.b) m.t).e, (sR4Neg m.c).e, (sR8turned (gneg m.c) m.t).e, (sR8turned m.a m.t).e, (sR8Normal (a := (minv0 m).a) (b := (minv0 m).b) (c := (minv0 m).c) (d := (minv0 m).d) m.t (minv0_sz h) hf h0).e]
    [(1, 25)] 400 Tryz.func57 hmA (by kernel_rfl) (fun β => by kernel_rfl)
def sR8Fits (m : MQ) {b : Bool} (hb : b = true ↔ FitM m) : Spec Tryz.prog :=
  ⟨135, Tryz.call135, [svM m], [], .one (.c (.b (.v (.bool b)))), [], fun β w hh => by
    by_cases h1 : FitG m.a
    · by_cases h2 : FitG m.b
      · by_cases h3 : FitG m.c
        · have h4 : b = true ↔ FitG m.d := hb.trans ⟨fun h => h.2.2.2, fun h => ⟨h1, h2, h3, h⟩⟩
          cases b <;> exact spec_auto (evs := [(sR4Fits m.a (iff_true_of h1)).e, (sR4Fits m.b (iff_true_of h2)).e, (sR4Fits m.c (iff_true_of h3)).e, (sR4Fits m.d h4).e]) (Ns := []) (m := 400) Tryz.func135 hmA (fun β => by kernel_rfl) (by kernel_rfl) β w hh
        · obtain rfl := eq_false_of hb fun h => h3 h.2.2.1
          exact spec_auto (evs := [(sR4Fits m.a (iff_true_of h1)).e, (sR4Fits m.b (iff_true_of h2)).e, (sR4Fits m.c (iff_false_of h3)).e]) (Ns := []) (m := 400) Tryz.func135 hmA (fun β => by kernel_rfl) (by kernel_rfl) β w hh
      · obtain rfl := eq_false_of hb fun h => h2 h.2.1
        exact spec_auto (evs := [(sR4Fits m.a (iff_true_of h1)).e, (sR4Fits m.b (iff_false_of h2)).e]) (Ns := []) (m := 400) Tryz.func135 hmA (fun β => by kernel_rfl) (by kernel_rfl) β w hh
    · obtain rfl := eq_false_of hb fun h => h1 h.1
      exact spec_auto (evs := [(sR4Fits m.a (iff_false_of h1)).e]) (Ns := []) (m := 400) Tryz.func135 hmA (fun β => by kernel_rfl) (by kernel_rfl) β w hh, by kernel_rfl⟩
theorem maC_fit {m : MQ} (h : FitM m) : maC m = mC m ∧ maK m = 0 := by
  obtain ⟨h1, h2⟩ := maC_yes h
  refine ⟨?_, h2⟩
  rw [h1, (ga_fit h.1).1, (ga_fit h.2.1).1, (ga_fit h.2.2.1).1, (ga_fit h.2.2.2).1]
  rfl
noncomputable def sR8Told (m : MQ) : Spec Tryz.prog :=
  ⟨51, Tryz.call51, [svM m], [], .tup [.a (maC m), .c (.b (.v (.int .i64 (maK m))))], [], fun β w hh => by
    by_cases h : FitM m
    · rw [(maC_fit h).1, (maC_fit h).2]
      exact spec_auto (evs := [(sR8Fits m (iff_true_of h)).e]) (Ns := []) (m := 400) Tryz.func51 hmA (fun β => by kernel_rfl) (by kernel_rfl) β w hh
    · rw [(maC_no h).1, (maC_no h).2]
      exact spec_auto (evs := [(sR8Fits m (iff_false_of h)).e]) (Ns := []) (m := 400) Tryz.func51 hmA (fun β => by kernel_rfl) (by kernel_rfl) β w hh, by kernel_rfl⟩
end Go.Proofs.YtiolbdleihiocaaGreat
end
/- The reference of layer 10, by what it does. -/
section
namespace Go.Proofs.YtiolbdleihiocaaGreat
open Go Go.RowKit
set_option maxRecDepth 100000

abbrev KQ : Nat := 250
theorem PSz.le {i k : Nat} {p : Pt} (h : PSz i p) (hk : Nat.ble i k = true := by decide) : PSz k p := h.mono (Nat.le_of_ble_eq_true hk)
theorem MSz.le {i k : Nat} {m : MQ} (h : MSz i m) (hk : Nat.ble i k = true := by decide) : MSz k m := h.mono (Nat.le_of_ble_eq_true hk)
/-- How long the chart's numbers are, of points of k bytes. -/
abbrev csz (k : Nat) : Nat := k + (k + k + (k + k) + 1 + (k + k + (k + k) + 1) + 1) + (k + (k + k + (k + k) + 1 + (k + k + (k + k) + 1) + 1)) + 1
theorem mchart0_sz {k : Nat} {p q r : Pt} (hp : PSz k p) (hq : PSz k q) (hr : PSz k r) (hk : 1 ≤ k) : MSz (csz k) (mchart0 p q r) :=
  ⟨(byB_sz hk).mul (gacross_sz hq hr hk), ((byA_sz hp hk).mul (gacross_sz hq hr hk)).neg, (byB_sz hk).mul (gacross_sz hq hp hk), ((byA_sz hr hk).mul (gacross_sz hq hp hk)).neg⟩
theorem minv_reg {m : MQ} (h : Reg m) : Reg (minv0 m) := h.undo0.conj _
end Go.Proofs.YtiolbdleihiocaaGreat
end
/- Maps in their one form. -/
section
namespace Go.Proofs.YtiolbdleihiocaaGreat
open Go Go.RowKit
set_option maxRecDepth 100000

theorem gq_one_ne : (⟨1, 0⟩ : GQ) ≠ g0 := fun e => by have := congrArg GQ.re e; exact absurd this (by show (1 : Rat) ≠ 0; decide)
theorem gq_div_self {u : GQ} (h : u ≠ g0) : gdiv u u = ⟨1, 0⟩ := by
  rw [gdiv_eq_iff h]
  refine GQ.ext2 ?_ ?_ <;> (simp only [gmul]; grind)
theorem gq_div_one (z : GQ) : gdiv z ⟨1, 0⟩ = z := by
  rw [gdiv_eq_iff gq_one_ne]
  refine GQ.ext2 ?_ ?_ <;> (simp only [gmul]; grind)
theorem ptB_ne' {p q : Pt} (h : p ≠ q) : ptB p q = false := by
  cases k : ptB p q
  · rfl
  · exact absurd (ptB_iff.1 k) h
/-- In its one form. -/
def mnorm (m : MQ) : MQ := mnormB m (gzero m.c)
def Nrm (m : MQ) : Prop := (bif gzero m.c then m.d else m.c) = ⟨1, 0⟩
theorem Nrm.id {m : MQ} (h : Nrm m) : mnorm m = m := by
  unfold Nrm at h
  unfold mnorm mnormB
  rw [h, gq_div_one, gq_div_one, gq_div_one, gq_div_one]
theorem Reg.nrm {m : MQ} (h : Reg m) : Nrm (mnorm m) := by
  have h0 := h.by_ rfl
  unfold Nrm mnorm
  cases hc : gzero m.c with
  | false =>
    have hc' := gz_false.1 hc
    show (bif gzero (gdiv m.c m.c) then _ else gdiv m.c m.c) = _
    rw [gq_div_self hc', gz_false.2 gq_one_ne]
    rfl
  | true =>
    rw [hc] at h0
    have hd : m.d ≠ g0 := h0
    show (bif gzero (gdiv m.c m.d) then gdiv m.d m.d else _) = _
    have : gzero (gdiv m.c m.d) = true := by
      rw [gz_true.1 hc, gz_true, gdiv_eq_iff hd]
      refine GQ.ext2 ?_ ?_ <;> (simp only [gmul, g0]; grind)
    rw [this, gq_div_self hd]
    rfl
theorem Reg.mnorm {m : MQ} (h : Reg m) : Reg (mnorm m) := h.norm (h.by_ rfl)
theorem Reg.b0 {m : MQ} (h : Reg m) : gzero (bif gzero m.c then m.d else m.c) = false := h.by0 rfl
theorem MSz.nrm {k : Nat} {m : MQ} (h : MSz k m) (hr : Reg m) : MSz (dsz k) (Go.Proofs.YtiolbdleihiocaaGreat.mnorm m) := h.normB hr.b0
/-- One behind the other; what undoes one; what sends three points to 0, 1, infinity; the one of three points and their images. -/
def mcmp (m n : MQ) : MQ := mnorm (mbeh m n)
def minv (m : MQ) : MQ := mnorm (minv0 m)
def mcha (p q r : Pt) : MQ := mnorm (mchart0 p q r)
def mid (t : Bool) : MQ := ⟨gint 1 0, g0, g0, gint 1 0, t⟩
theorem Reg.cmp {m n : MQ} (h : Reg m) (k : Reg n) : Reg (mcmp m n) := (h.beh k).mnorm
theorem Reg.inv {m : MQ} (h : Reg m) : Reg (minv m) := (minv_reg h).mnorm
theorem Reg.cha {p q r : Pt} (h1 : p ≠ q) (h2 : q ≠ r) (h3 : r ≠ p) : Reg (mcha p q r) := (Reg.chart h1 h2 (Ne.symm h3)).mnorm
theorem Reg.id (t : Bool) : Reg (mid t) := fun e => by
  have := congrArg GQ.re e
  simp only [mdet, mid, gint10, gsub, gmul, g0] at this
  exact absurd this (by grind)
theorem Nrm.cmp {m n : MQ} (h : Reg m) (k : Reg n) : Nrm (mcmp m n) := (h.beh k).nrm
theorem Nrm.inv {m : MQ} (h : Reg m) : Nrm (minv m) := (minv_reg h).nrm
theorem Nrm.cha {p q r : Pt} (h1 : p ≠ q) (h2 : q ≠ r) (h3 : r ≠ p) : Nrm (mcha p q r) := (Reg.chart h1 h2 (Ne.symm h3)).nrm
theorem gmul_1 (z : GQ) : gmul (gint 1 0) z = z := by rw [gint10]; refine GQ.ext2 ?_ ?_ <;> (simp only [gmul]; grind)
theorem gmul_0 (z : GQ) : gmul g0 z = g0 := by refine GQ.ext2 ?_ ?_ <;> (simp only [gmul, g0]; grind)
theorem gadd_0 (z : GQ) : gadd z g0 = z := by refine GQ.ext2 ?_ ?_ <;> (simp only [gadd, g0]; grind)
theorem gadd_0' (z : GQ) : gadd g0 z = z := by refine GQ.ext2 ?_ ?_ <;> (simp only [gadd, g0]; grind)
theorem mbeh_id (m : MQ) : mbeh (mid false) m = m := by
  obtain ⟨a, b, c, d, t⟩ := m
  unfold mbeh mid mconj
  simp only [cond_false, gmul_1, gmul_0, gadd_0, gadd_0', Bool.false_bne]
theorem mcmp_id {m : MQ} (h : Nrm m) : mcmp (mid false) m = m := by
  unfold mcmp
  rw [mbeh_id, h.id]
/-- The map that sends three points to three. -/
def mof (p q r s u v : Pt) (t : Bool) : MQ := mcmp (minv (mcha s u v)) (mcmp (mid t) (mcha p q r))
end Go.Proofs.YtiolbdleihiocaaGreat
end
/- Points and maps that came in, of which no more is asked than whether they may be. -/
section
namespace Go.Proofs.YtiolbdleihiocaaGreat.Y
open Go Go.RowKit
set_option maxRecDepth 100000

theorem an_mem {w : World} {D1 D2 : Thing} {xs : List Pl} (h : newHold w [D1, D2] xs) : newHold w [anyT, anyT] xs := by
  match xs, h with
  | [p, q], h => exact ⟨an_of D1.st h.1, an_of D2.st h.2.1, trivial⟩
theorem spT_any {w : World} {p : Pp} {xs : List Pl} (h : newHold w (spT p) xs) : newHold w [anyT, anyT] xs := by
  rcases p with _ | ⟨_ | _, _ | _⟩ | _ <;> exact an_mem h
/-- A point that came in, by its cells. -/
def sSpotW (p : Pp) {r : Bool} (hr : p.B = r) : Spec Tryz.prog :=
  ⟨106, Tryz.call106, [.one (.a (lsX p.w.C))], [], .tup [.a [.b (.v (.bool (spI p))), .b (.z 0 0), .b (.z 1 0)], .c (.b (.v (.bool r)))], [anyT, anyT], fun β w hh => by
    rw [← hr]
    have h := (sSpot p).ok β w hh
    rw [show (sSpot p).args = [.one (.a (lsX p.w.C))] from congrArg (fun l => [SV.one (.a (lsX l))]) p.C_raw] at h
    exact h.mono fun e w' ⟨xs, h1, he, h2, h3⟩ => ⟨xs, h1, he, spT_any h2, h3⟩, by kernel_rfl⟩
/-- A point that may be. -/
def sSpotP (p : Pt) (h : FitP p) : Spec Tryz.prog :=
  ⟨106, Tryz.call106, [.one (.a (lsX p.w.C))], [], .tup [.a (pL 0 p), .c (.b (.v (.bool true)))], pM p, fun β w hh => by
    cases p with
    | inf => exact (sSpot .inf).ok β w hh
    | fin z =>
      refine ((sSpot (.fin (.ok z.re h.1) (.ok z.im h.2))).ok β w hh).mono fun e w' ⟨xs, h1, he, h2, h3⟩ => ⟨xs, h1, he, ?_, h3⟩
      have h4 : newHold w' [ratT z.re, ratT z.im] xs := h2
      match xs, h4 with
      | [a, b], h4 => exact ⟨(ratT z.re).imp _ _ h4.1, (ratT z.im).imp _ _ h4.2.1, trivial⟩, by kernel_rfl⟩
/-- A map that may be. -/
def MayQ (q : MQ) : Prop := FitM q ∧ gzero (mdet q) = false ∧ (gzero (gsub q.c (gint 1 0)) = true ∨ gzero q.c = true ∧ gzero (gsub q.d (gint 1 0)) = true)
/-- A map that may be. -/
def sOpenYes {q : MQ} (h : MayQ q) : Spec Tryz.prog :=
  ⟨132, Tryz.call132, [.one (.a (mCl q))], [], .tup [mA 0 q, .c (.b (.v (.bool true)))], mT q, fun β w hh => by
    obtain ⟨hf, hd, hr⟩ := h
    have hk : mayR (gzero (gsub q.c (gint 1 0))) (gzero q.c) (gzero (gsub q.d (gint 1 0))) = true := by
      unfold mayR
      rcases hr with h | ⟨h, k⟩
      · rw [h]; rfl
      · rw [h, k]; cases gzero (gsub q.c (gint 1 0)) <;> rfl
    refine ((sOpenM hf hd rfl rfl rfl).ok β w hh).mono fun e w' ⟨xs, h1, he, h2, h3⟩ => ⟨xs, h1, ?_, h2, h3⟩
    rw [he]
    show Ending.returned ((SV.tup [mA 0 q, .c (.b (.v (.bool (mayR (gzero (gsub q.c (gint 1 0))) (gzero q.c) (gzero (gsub q.d (gint 1 0)))))))]).den (extE β 0 xs)) = _
    rw [hk]
    rfl, by kernel_rfl⟩
end Go.Proofs.YtiolbdleihiocaaGreat.Y
end
/- The reference of layer 8: maps of three points. -/
section
namespace Go.Proofs.YtiolbdleihiocaaGreat
open Go Go.RowKit
set_option maxRecDepth 100000

abbrev svT (b : Bool) : SV := .one (.c (.b (.v (.bool b))))
abbrev svN (n : Int) : SC := .c (.b (.v (.int .i64 n)))
def sR8unit : Spec Tryz.prog := Spec.auto Tryz.call114 [] [] (svG (gint 1 0)) [] [(sR4Int 1 0).e] [] 400 Tryz.func114 hmA (by kernel_rfl) (fun β => by kernel_rfl)
def sR8zero : Spec Tryz.prog := Spec.auto Tryz.call115 [] [] (svG (gint 0 0)) [] [(sR4Int 0 0).e] [] 400 Tryz.func115 hmA (by kernel_rfl) (fun β => by kernel_rfl)
def two8E : Pt → List (Ev Tryz.prog)
  | .inf => [sR8unit.e, sR8zero.e]
  | .fin _ => [sR8unit.e]
def sR8Two (p : Pt) : Spec Tryz.prog :=
  Spec.auto Tryz.call195 [svP p] [] (.tup [.a (gC (byA p)), .a (gC (byB p))]) [] (two8E p) [(3, 3)] 400 Tryz.func195 hmA (by cases p <;> kernel_rfl) (fun β => by cases p <;> kernel_rfl)
def sR8Across {p q : Pt} (hp : PSz KQ p) (hq : PSz KQ q) : Spec Tryz.prog :=
  Spec.auto Tryz.call196 [svP p, svP q] [] (svG (gacross p q)) []
    [(sR8Two p).e, (sR8Two q).e, (sR4Times (byA_sz hp (by decide)).le (byB_sz (k := KE) (p := q) (by decide))).e, (sR4Times (byB_sz (k := KE) (p := p) (by decide)) (byA_sz hq (by decide)).le).e,
      (sR4Minus ((byA_sz hp (by decide)).mul (byB_sz (k := KQ) (p := q) (by decide))).le ((byB_sz (k := KQ) (p := p) (by decide)).mul (byA_sz hq (by decide))).le).e] [(3, 7)] 400 Tryz.func196 hmA (by kernel_rfl) (fun β => by kernel_rfl)
def sR8Chart {p q r : Pt} (hp : PSz KQ p) (hq : PSz KQ q) (hr : PSz KQ r) (h0 : Reg (mchart0 p q r)) : Spec Tryz.prog :=
  Spec.auto Tryz.call112 [svP p, svP q, svP r] [] (svM (mcha p q r)) []
    [(sR8Two p).e, (sR8Two r).e, (sR8Across hq hr).e, (sR8Across hq hp).e, (sR4Times (byB_sz (k := KE) (p := p) (by decide)) (gacross_sz hq hr (by decide)).le).e, (sR4Times (byA_sz hp (by decide)).le (gacross_sz hq hr (by decide)).le).e, (sR4Neg (gmul (byA p) (gacross q r))).e,
      (sR4Times (byB_sz (k := KE) (p := r) (by decide)) (gacross_sz hq hp (by decide)).le).e, (sR4Times (byA_sz hr (by decide)).le (gacross_sz hq hp (by decide)).le).e, (sR4Neg (gmul (byA r) (gacross q p))).e,
      (sR8Normal (a := (mchart0 p q r).a) (b := (mchart0 p q r).b) (c := (mchart0 p q r).c) (d := (mchart0 p q r).d) false (mchart0_sz hp hq hr (by decide)).le (f := gzero (mchart0 p q r).c) rfl h0.b0).e] [(3, 8), (4, 15)] 800 Tryz.func112 hmA (by kernel_rfl) (fun β => by kernel_rfl)
abbrev KD : Nat := 1000000
abbrev KT : Nat := 125
def mmA {z w u v : GQ} (hz : GSz KD z) (hw : GSz KD w) (hu : GSz KD u) (hv : GSz KD v) : List (Ev Tryz.prog) :=
  [(sR4Times (GSz.le hz) (GSz.le hw)).e, (sR4Times (GSz.le hu) (GSz.le hv)).e, (sR4Plus (hz.mul hw).le (hu.mul hv).le).e]
def sR8Compose {m n : MQ} (h : MSz KD m) (k : MSz KD n) (h0 : Reg (mbeh m n)) : Spec Tryz.prog :=
  Spec.auto Tryz.call113 [svM m, svM n] [] (svM (mcmp m n)) []
    ([(sR8turned n.a m.t).e, (sR8turned n.b m.t).e, (sR8turned n.c m.t).e, (sR8turned n.d m.t).e] ++ mmA h.a (mcj_sz (t := m.t) k.a) h.b (mcj_sz (t := m.t) k.c) ++ mmA h.a (mcj_sz (t := m.t) k.b) h.b (mcj_sz (t := m.t) k.d) ++ mmA h.c (mcj_sz (t := m.t) k.a) h.d (mcj_sz (t := m.t) k.c) ++ mmA h.c (mcj_sz (t := m.t) k.b) h.d (mcj_sz (t := m.t) k.d) ++
      [(sR8Normal (a := (mbeh m n).a) (b := (mbeh m n).b) (c := (mbeh m n).c) (d := (mbeh m n).d) (m.t != n.t) (h.beh k).le (f := gzero (mbeh m n).c) rfl h0.b0).e]) [(1, 24), (2, 42)] 800 Tryz.func113 hmA (by kernel_rfl) (fun β => by kernel_rfl)
def sR8Inv {m : MQ} (h : MSz KE m) (h0 : Reg (minv0 m)) : Spec Tryz.prog := (sR8Inverse h (f := gzero (minv0 m).c) rfl h0.b0).as [svM m] (svM (minv m)) rfl rfl
-- three points and three
abbrev svP3 (p q r : Pt) : SV := .one (.a (p.w.C ++ q.w.C ++ r.w.C))
def mz8 : List Lf := g0C ++ g0C ++ g0C ++ g0C ++ [.b (.v (.bool false))]
abbrev P6 (p q r s u v : Pt) (k : Pt → Prop) : Prop := k p ∧ k q ∧ k r ∧ k s ∧ k u ∧ k v
section
variable {p q r s u v : Pt} (z : P6 p q r s u v (PSz KT)) (t : Bool)
def tw8E {t1 t2 t3 t4 t5 t6 : Bool} (h1 : ptB p q = t1) (h2 : ptB s u = t2) (h3 : ptB q r = t3) (h4 : ptB u v = t4) (h5 : ptB r p = t5) (h6 : ptB v s = t6) : List (Ev Tryz.prog) :=
  eqP2 h1 :: (bif t1 then [] else eqP2 h2 :: (bif t2 then [] else eqP2 h3 :: (bif t3 then [] else eqP2 h4 :: (bif t4 then [] else eqP2 h5 :: (bif t5 then [] else [eqP2 h6])))))
def sR8OfTwin {t1 t2 t3 t4 t5 t6 : Bool} (h1 : ptB p q = t1) (h2 : ptB s u = t2) (h3 : ptB q r = t3) (h4 : ptB u v = t4) (h5 : ptB r p = t5) (h6 : ptB v s = t6) (h : (t1 || t2 || t3 || t4 || t5 || t6) = true) : Spec Tryz.prog :=
  ⟨18, Tryz.call18, [svP3 p q r, svP3 s u v, svT t], [], .tup [.a mz8, svN 181], [], fun β w hh => by
    cases t1
    · cases t2
      · cases t3
        · cases t4
          · cases t5
            · cases t6
              · cases h
              · exact spec_auto (evs := tw8E h1 h2 h3 h4 h5 h6) (Ns := [(5, 16), (9, 7), (10, 10)]) (m := 800) Tryz.func18 hmA (fun β => by kernel_rfl) (by kernel_rfl) β w hh
            · exact spec_auto (evs := tw8E h1 h2 h3 h4 h5 h6) (Ns := [(5, 16), (9, 7), (10, 10)]) (m := 800) Tryz.func18 hmA (fun β => by kernel_rfl) (by kernel_rfl) β w hh
          · exact spec_auto (evs := tw8E h1 h2 h3 h4 h5 h6) (Ns := [(5, 16), (9, 7), (10, 10)]) (m := 800) Tryz.func18 hmA (fun β => by kernel_rfl) (by kernel_rfl) β w hh
        · exact spec_auto (evs := tw8E h1 h2 h3 h4 h5 h6) (Ns := [(5, 16), (9, 7), (10, 10)]) (m := 800) Tryz.func18 hmA (fun β => by kernel_rfl) (by kernel_rfl) β w hh
      · exact spec_auto (evs := tw8E h1 h2 h3 h4 h5 h6) (Ns := [(5, 16), (9, 7), (10, 10)]) (m := 800) Tryz.func18 hmA (fun β => by kernel_rfl) (by kernel_rfl) β w hh
    · exact spec_auto (evs := tw8E h1 h2 h3 h4 h5 h6) (Ns := [(5, 16), (9, 7), (10, 10)]) (m := 800) Tryz.func18 hmA (fun β => by kernel_rfl) (by kernel_rfl) β w hh, by kernel_rfl⟩
theorem mid_sz (t : Bool) {k : Nat} (hk : 1 ≤ k := by decide) : MSz k (mid t) := by
  have h1 : GSz k (gint 1 0) := (GSz.int (by decide) (by decide)).mono hk
  have h0 : GSz k g0 := g0_sz hk
  exact ⟨h1, h0, h0, h1⟩
theorem mcha_sz {k : Nat} (hp : PSz k p) (hq : PSz k q) (hr : PSz k r) (hk : 1 ≤ k) (h0 : Reg (mchart0 p q r)) : MSz (dsz (csz k)) (mcha p q r) := (mchart0_sz hp hq hr hk).nrm h0
theorem minv_sz {k : Nat} {m : MQ} (h : MSz k m) (h0 : Reg (minv0 m)) : MSz (dsz k) (minv m) := (minv0_sz h).nrm h0
theorem mcmp_sz {i j : Nat} {m n : MQ} (h : MSz i m) (k : MSz j n) (h0 : Reg (mbeh m n)) : MSz (dsz (bsz i j)) (mcmp m n) := (h.beh k).nrm h0
structure Six (p q r s u v : Pt) : Prop where
  a : p ≠ q
  b : q ≠ r
  c : r ≠ p
  d : s ≠ u
  e : u ≠ v
  f : v ≠ s
theorem Six.r1 (h : Six p q r s u v) : Reg (mchart0 p q r) := Reg.chart h.a h.b (Ne.symm h.c)
theorem Six.r2 (h : Six p q r s u v) : Reg (mchart0 s u v) := Reg.chart h.d h.e (Ne.symm h.f)
theorem Six.r3 (h : Six p q r s u v) (t : Bool) : Reg (mbeh (mid t) (mcha p q r)) := (Reg.id t).beh h.r1.mnorm
theorem Six.r4 (h : Six p q r s u v) : Reg (minv0 (mcha s u v)) := minv_reg h.r2.mnorm
theorem Six.r5 (h : Six p q r s u v) (t : Bool) : Reg (mbeh (minv (mcha s u v)) (mcmp (mid t) (mcha p q r))) := h.r4.mnorm.beh (h.r3 t).mnorm
theorem Six.r6 (h : Six p q r s u v) : Reg (mbeh (minv (mcha s u v)) (mcha p q r)) := h.r4.mnorm.beh h.r1.mnorm
theorem mof_f (h : Six p q r s u v) : mof p q r s u v false = mcmp (minv (mcha s u v)) (mcha p q r) := by
  unfold mof
  rw [mcmp_id (Nrm.cha h.a h.b h.c)]
def six8E (h : Six p q r s u v) : List (Ev Tryz.prog) := tw8E (ptB_ne' h.a) (ptB_ne' h.d) (ptB_ne' h.b) (ptB_ne' h.e) (ptB_ne' h.c) (ptB_ne' h.f) ++ [(sR8Chart z.1.le z.2.1.le z.2.2.1.le h.r1).e]
abbrev c1z (h : Six p q r s u v) : MSz (dsz (csz KT)) (mcha p q r) := mcha_sz z.1 z.2.1 z.2.2.1 (by decide) h.r1
abbrev c2z (h : Six p q r s u v) : MSz (dsz (dsz (csz KT))) (minv (mcha s u v)) := minv_sz (mcha_sz z.2.2.2.1 z.2.2.2.2.1 z.2.2.2.2.2 (by decide) h.r2) h.r4
def sR8Of (h : Six p q r s u v) : Spec Tryz.prog :=
  ⟨18, Tryz.call18, [svP3 p q r, svP3 s u v, svT t], [], .tup [.a (mC (mof p q r s u v t)), svN 0], [], fun β w hh => by
    cases t
    · rw [mof_f h]
      exact spec_auto (evs := six8E z h ++ [(sR8Chart z.2.2.2.1.le z.2.2.2.2.1.le z.2.2.2.2.2.le h.r2).e, (sR8Inv (mcha_sz z.2.2.2.1 z.2.2.2.2.1 z.2.2.2.2.2 (by decide) h.r2).le h.r4).e, (sR8Compose (c2z z h).le (c1z z h).le h.r6).e])
        (Ns := [(5, 16), (9, 7), (10, 10)]) (m := 800) Tryz.func18 hmA (fun β => by kernel_rfl) (by kernel_rfl) β w hh
    · exact spec_auto (evs := six8E z h ++ [sR8unit.e, sR8zero.e, sR8zero.e, sR8unit.e, (sR8Compose (mid_sz true) (c1z z h).le (h.r3 true)).e, (sR8Chart z.2.2.2.1.le z.2.2.2.2.1.le z.2.2.2.2.2.le h.r2).e, (sR8Inv (mcha_sz z.2.2.2.1 z.2.2.2.2.1 z.2.2.2.2.2 (by decide) h.r2).le h.r4).e, (sR8Compose (c2z z h).le (mcmp_sz (mid_sz true (k := 1)) (c1z z h) (h.r3 true)).le (h.r5 true)).e])
        (Ns := [(5, 16), (9, 7), (10, 10)]) (m := 800) Tryz.func18 hmA (fun β => by kernel_rfl) (by kernel_rfl) β w hh, by kernel_rfl⟩
end
end Go.Proofs.YtiolbdleihiocaaGreat
end
/- Package mob: where a map sends a point; the map that undoes one. -/
section
namespace Go.Proofs.YtiolbdleihiocaaGreat.Y
open Go Go.RowKit
set_option maxRecDepth 100000

def mob0 : SC := .a (lsX g0C ++ lsX g0C ++ lsX g0C ++ lsX g0C ++ [.b (.v (.bool false))])
theorem MayQ.reg {q : MQ} (h : MayQ q) : Reg q := gz_false.1 h.2.1
theorem sub_one {z : GQ} (h : gzero (gsub z (gint 1 0)) = true) : z = ⟨1, 0⟩ := by
  have := gz_true.1 h
  have e1 := congrArg GQ.re this
  have e2 := congrArg GQ.im this
  simp only [gint10, gsub, g0] at e1 e2
  exact GQ.ext2 (by grind) (by grind)
theorem MayQ.nrm {q : MQ} (h : MayQ q) : Nrm q := by
  rcases h.2.2 with h1 | ⟨h1, h2⟩
  · unfold Nrm
    rw [sub_one h1, gz_false.2 gq_one_ne]
    rfl
  · unfold Nrm
    rw [h1, sub_one h2]
    rfl
/-- Maps that are regular: behind each other, undone, told. -/
def sBehR {m n : MQ} (h : MSz KE m) (k : MSz KE n) (h0 : Reg (mbeh m n)) : Spec Tryz.prog := sBehind h k (b := gzero (mbeh m n).c) rfl h0.b0
def sUndoR {m : MQ} (h : MSz KM m) (h0 : Reg m) : Spec Tryz.prog := sUndo h (b := gzero (minv0 m).c) rfl (minv_reg h0).b0
def sChaR {p q r : Pt} (hp : PSz KC p) (hq : PSz KC q) (hr : PSz KC r) (h0 : Reg (mchart0 p q r)) : Spec Tryz.prog := sChart hp hq hr (b := gzero (mchart0 p q r).c) rfl h0.b0
theorem nrm_b0 {m : MQ} (h : Nrm m) : gzero (bif gzero m.c then m.d else m.c) = false := by
  unfold Nrm at h
  rw [h]
  exact gz_false.2 gq_one_ne
noncomputable def sToldN {m : MQ} (h : MSz KM m) (h0 : Nrm m) : Spec Tryz.prog :=
  ⟨111, Tryz.call111, [mV 0 m], mM m, .tup [.a (lsX (maC m)), .c (.b (.v (.int .i64 (maK m))))], [], fun β w hh => by
    have k := (sToldM h (b := gzero m.c) rfl (nrm_b0 h0)).ok β w hh
    rw [show (sToldM h (b := gzero m.c) rfl (nrm_b0 h0)).res = .tup [.a (lsX (maC m)), .c (.b (.v (.int .i64 (maK m))))] from congrArg (fun m => SV.tup [.a (lsX (maC m)), .c (.b (.v (.int .i64 (maK m))))]) h0.id] at k
    exact k, by kernel_rfl⟩
theorem send_sz {q : MQ} (h : MSz 1024 q) {p : Pt} (hp : PSz 1024 p) {b : Bool} (hb : gzero (msD q p) = b) : PSz KB (msend q p b) := by
  cases b
  · exact (GSz.div (msN_sz h hp) (msD_sz h hp) hb).mono (by decide)
  · trivial
noncomputable def sAt {q : MQ} (h : MayQ q) {p : Pt} (hp : FitP p) {b : Bool} (hb : gzero (msD q p) = b) : Spec Tryz.prog :=
  Spec.auto Tryz.call84 [.one (.a (mCl q)), .one (.a (lsX p.w.C))] [] (.tup [.a (lsX (paC (msend q p b))), .c (.b (.v (.int .i64 (paK (msend q p b)))))]) []
    [(sOpenYes h).e, (sSpotP p hp).e, (sSend ((fitM_sz h.1).mono (by decide)) (hp.sz.mono (by decide)) hb).e, (sToldP (msend q p b) (send_sz (fitM_sz h.1) hp.sz hb)).e] [] 800 Tryz.func84 hmA (by cases b <;> kernel_rfl) (fun β => by cases b <;> kernel_rfl)
noncomputable def sInv {q : MQ} (h : MayQ q) : Spec Tryz.prog :=
  Spec.auto Tryz.call56 [.one (.a (mCl q))] [] (.tup [.a (lsX (maC (minv q))), .c (.b (.v (.int .i64 (maK (minv q)))))]) []
    [(sOpenYes h).e, (sUndoR ((fitM_sz h.1).mono (by decide)) h.reg).e, (sToldN ((minv_sz (fitM_sz h.1) (minv_reg h.reg)).mono (by decide)) (Nrm.inv h.reg)).e] [] 800 Tryz.func56 hmA (by kernel_rfl) (fun β => by kernel_rfl)
end Go.Proofs.YtiolbdleihiocaaGreat.Y
end
/- Package mob: the map of three points and their images. -/
section
namespace Go.Proofs.YtiolbdleihiocaaGreat.Y
open Go Go.RowKit
set_option maxRecDepth 100000

abbrev OFN : List (Nat × Nat) := [(9, 5007004005008), (15, 16), (20, 11)]
abbrev a3 (p q r : Rw) : SV := .one (.a (lsX (p.C ++ q.C ++ r.C)))
abbrev tB (t : Bool) : SV := .one (.c (.b (.v (.bool t))))
abbrev nI (k : Int) : SC := .c (.b (.v (.int .i64 k)))
/-- A point of them may not be. -/
def ofNoE (p q : Pp) {a b : Bool} (ha : p.B = a) (hb : q.B = b) : List (Ev Tryz.prog) := [(sSpotW p ha).e, (sSpotW q hb).e]
def sOfNo1 (p q r s u v : Pp) (t : Bool) {a b : Bool} (ha : p.B = a) (hb : s.B = b) (h : (a && b) = false) : Spec Tryz.prog :=
  ⟨15, Tryz.call15, [a3 p.w q.w r.w, a3 s.w u.w v.w, tB t], [], .tup [mob0, nI 2], [], fun β w hh => by
    cases a
    · exact spec_auto (evs := ofNoE p s ha hb) (Ns := OFN) (m := 1200) Tryz.func15 hmA (fun β => by kernel_rfl) (by kernel_rfl) β w hh
    · cases b
      · exact spec_auto (evs := ofNoE p s ha hb) (Ns := OFN) (m := 1200) Tryz.func15 hmA (fun β => by kernel_rfl) (by kernel_rfl) β w hh
      · exact Bool.noConfusion h, by kernel_rfl⟩
def sOfNo2 (p q r s u v : Pp) (t : Bool) (ha : p.B = true) (hb : s.B = true) {c d : Bool} (hc : q.B = c) (hd : u.B = d) (h : (c && d) = false) : Spec Tryz.prog :=
  ⟨15, Tryz.call15, [a3 p.w q.w r.w, a3 s.w u.w v.w, tB t], [], .tup [mob0, nI 2], [], fun β w hh => by
    cases c
    · exact spec_auto (evs := ofNoE p s ha hb ++ ofNoE q u hc hd) (Ns := OFN) (m := 1200) Tryz.func15 hmA (fun β => by kernel_rfl) (by kernel_rfl) β w hh
    · cases d
      · exact spec_auto (evs := ofNoE p s ha hb ++ ofNoE q u hc hd) (Ns := OFN) (m := 1200) Tryz.func15 hmA (fun β => by kernel_rfl) (by kernel_rfl) β w hh
      · exact Bool.noConfusion h, by kernel_rfl⟩
def sOfNo3 (p q r s u v : Pp) (t : Bool) (ha : p.B = true) (hb : s.B = true) (hc : q.B = true) (hd : u.B = true) {e f : Bool} (he : r.B = e) (hf : v.B = f) (h : (e && f) = false) : Spec Tryz.prog :=
  ⟨15, Tryz.call15, [a3 p.w q.w r.w, a3 s.w u.w v.w, tB t], [], .tup [mob0, nI 2], [], fun β w hh => by
    cases e
    · exact spec_auto (evs := ofNoE p s ha hb ++ ofNoE q u hc hd ++ ofNoE r v he hf) (Ns := OFN) (m := 1200) Tryz.func15 hmA (fun β => by kernel_rfl) (by kernel_rfl) β w hh
    · cases f
      · exact spec_auto (evs := ofNoE p s ha hb ++ ofNoE q u hc hd ++ ofNoE r v he hf) (Ns := OFN) (m := 1200) Tryz.func15 hmA (fun β => by kernel_rfl) (by kernel_rfl) β w hh
      · exact Bool.noConfusion h, by kernel_rfl⟩
section
variable {p q r s u v : Pt}
def of6E (z : P6 p q r s u v FitP) : List (Ev Tryz.prog) := [(sSpotP p z.1).e, (sSpotP s z.2.2.2.1).e, (sSpotP q z.2.1).e, (sSpotP u z.2.2.2.2.1).e, (sSpotP r z.2.2.1).e, (sSpotP v z.2.2.2.2.2).e]
def eqEvPt {p q : Pt} {r : Bool} (h : ptB p q = r) : Ev Tryz.prog := eqEvP p.i q.i p.x p.y q.x q.y r h
def twE {t1 t2 t3 t4 t5 t6 : Bool} (h1 : ptB p q = t1) (h2 : ptB s u = t2) (h3 : ptB q r = t3) (h4 : ptB u v = t4) (h5 : ptB r p = t5) (h6 : ptB v s = t6) : List (Ev Tryz.prog) :=
  eqEvPt h1 :: (bif t1 then [] else eqEvPt h2 :: (bif t2 then [] else eqEvPt h3 :: (bif t3 then [] else eqEvPt h4 :: (bif t4 then [] else eqEvPt h5 :: (bif t5 then [] else [eqEvPt h6])))))
set_option maxHeartbeats 4000000 in
def sOfTwin (z : P6 p q r s u v FitP) (t : Bool) {t1 t2 t3 t4 t5 t6 : Bool} (h1 : ptB p q = t1) (h2 : ptB s u = t2) (h3 : ptB q r = t3) (h4 : ptB u v = t4) (h5 : ptB r p = t5) (h6 : ptB v s = t6) (h : (t1 || t2 || t3 || t4 || t5 || t6) = true) : Spec Tryz.prog :=
  ⟨15, Tryz.call15, [a3 p.w q.w r.w, a3 s.w u.w v.w, tB t], [], .tup [mob0, nI 181], [], fun β w hh => by
    cases t1
    · cases t2
      · cases t3
        · cases t4
          · cases t5
            · cases t6
              · cases h
              · exact spec_auto (evs := of6E z ++ twE h1 h2 h3 h4 h5 h6) (Ns := OFN) (m := 1200) Tryz.func15 hmA (fun β => by kernel_rfl) (by kernel_rfl) β w hh
            · exact spec_auto (evs := of6E z ++ twE h1 h2 h3 h4 h5 h6) (Ns := OFN) (m := 1200) Tryz.func15 hmA (fun β => by kernel_rfl) (by kernel_rfl) β w hh
          · exact spec_auto (evs := of6E z ++ twE h1 h2 h3 h4 h5 h6) (Ns := OFN) (m := 1200) Tryz.func15 hmA (fun β => by kernel_rfl) (by kernel_rfl) β w hh
        · exact spec_auto (evs := of6E z ++ twE h1 h2 h3 h4 h5 h6) (Ns := OFN) (m := 1200) Tryz.func15 hmA (fun β => by kernel_rfl) (by kernel_rfl) β w hh
      · exact spec_auto (evs := of6E z ++ twE h1 h2 h3 h4 h5 h6) (Ns := OFN) (m := 1200) Tryz.func15 hmA (fun β => by kernel_rfl) (by kernel_rfl) β w hh
    · exact spec_auto (evs := of6E z ++ twE h1 h2 h3 h4 h5 h6) (Ns := OFN) (m := 1200) Tryz.func15 hmA (fun β => by kernel_rfl) (by kernel_rfl) β w hh, by kernel_rfl⟩
abbrev KF : Nat := 1024
theorem of1z (z : P6 p q r s u v FitP) (h : Six p q r s u v) : MSz (dsz (csz KF)) (mcha p q r) := mcha_sz z.1.sz z.2.1.sz z.2.2.1.sz (by decide) h.r1
theorem of2z (z : P6 p q r s u v FitP) (h : Six p q r s u v) : MSz (dsz (csz KF)) (mcha s u v) := mcha_sz z.2.2.2.1.sz z.2.2.2.2.1.sz z.2.2.2.2.2.sz (by decide) h.r2
theorem of3z (z : P6 p q r s u v FitP) (t : Bool) (h : Six p q r s u v) : MSz (dsz (bsz 1 (dsz (csz KF)))) (mcmp (mid t) (mcha p q r)) := mcmp_sz (mid_sz t (k := 1)) (of1z z h) (h.r3 t)
theorem of4z (z : P6 p q r s u v FitP) (h : Six p q r s u v) : MSz (dsz (dsz (csz KF))) (minv (mcha s u v)) := minv_sz (of2z z h) h.r4
theorem of5z (z : P6 p q r s u v FitP) (t : Bool) (h : Six p q r s u v) : MSz KM (mof p q r s u v t) := (mcmp_sz (of4z z h) (of3z z t h) (h.r5 t)).mono (by decide)
theorem mof_nrm (t : Bool) (h : Six p q r s u v) : Nrm (mof p q r s u v t) := Nrm.cmp (h.r4.mnorm) (h.r3 t).mnorm
set_option maxHeartbeats 4000000 in
noncomputable def sOf3 (z : P6 p q r s u v FitP) (t : Bool) (h : Six p q r s u v) : Spec Tryz.prog :=
  Spec.auto Tryz.call15 [a3 p.w q.w r.w, a3 s.w u.w v.w, tB t] [] (.tup [.a (lsX (maC (mof p q r s u v t))), nI (maK (mof p q r s u v t))]) []
    (of6E z ++ twE (ptB_ne' h.a) (ptB_ne' h.d) (ptB_ne' h.b) (ptB_ne' h.e) (ptB_ne' h.c) (ptB_ne' h.f) ++
      [sStill.e, (sChaR (z.2.2.2.1.sz.mono (by decide)) (z.2.2.2.2.1.sz.mono (by decide)) (z.2.2.2.2.2.sz.mono (by decide)) h.r2).e, (sUndoR ((of2z z h).mono (by decide)) h.r2.mnorm).e,
       (sChaR (z.1.sz.mono (by decide)) (z.2.1.sz.mono (by decide)) (z.2.2.1.sz.mono (by decide)) h.r1).e, (sBehR ((mid_sz t (k := 1)).mono (by decide)) ((of1z z h).mono (by decide)) (h.r3 t)).e,
       (sBehR ((of4z z h).mono (by decide)) ((of3z z t h).mono (by decide)) (h.r5 t)).e, (sToldN (of5z z t h) (mof_nrm t h)).e]) OFN 1200 Tryz.func15 hmA (by kernel_rfl) (fun β => by kernel_rfl)
end
end Go.Proofs.YtiolbdleihiocaaGreat.Y
end
/- Package mob: the map of four numbers. -/
section
namespace Go.Proofs.YtiolbdleihiocaaGreat.Y
open Go Go.RowKit
set_option maxRecDepth 100000

theorem num_some : (Tryz.prog.info? 119).isSome = true := by kernel_rfl
/-- Numbers in a row. -/
noncomputable def appN : AppT Tryz.prog :=
  ⟨153, 119, (Tryz.prog.info? 119).get num_some, .agg #[.pointer none, .pointer none], 2, 16, Tryz.underlying153, (Option.some_get num_some).symm, by kernel_rfl, by kernel_rfl, by kernel_rfl, rfl, by decide, by decide⟩
/-- A number that came in, by its cells. -/
structure Gp where
  a : Fr
  b : Fr
def Gp.C (g : Gp) : SV := .one (.a (rL g.a.r ++ rL g.b.r))
def Gp.B (g : Gp) : Bool := g.a.a.B && g.b.a.B
abbrev tB' (t : Bool) : SV := .one (.c (.b (.v (.bool t))))
abbrev nI' (k : Int) : SC := .c (.b (.v (.int .i64 k)))
abbrev gS (z : GQ) : SV := .one (.a (lsX (gC z)))
noncomputable def mkOkE {m : MQ} (h : FitM m) : List (Ev Tryz.prog) := [ofE h.1, .app appN, ofE h.2.1, .app appN, ofE h.2.2.1, .app appN, ofE h.2.2.2, .app appN, (sDet ((fitM_sz h).mono (by decide))).e]
noncomputable def sToldR {m : MQ} (h : MSz KM m) (h0 : Reg m) : Spec Tryz.prog := sToldM h (b := gzero m.c) rfl h0.b0
noncomputable def sMake {m : MQ} (h : FitM m) (h0 : gzero (mdet m) = false) : Spec Tryz.prog :=
  Spec.auto Tryz.call35 [gS m.a, gS m.b, gS m.c, gS m.d, tB' m.t] [] (.tup [.a (lsX (maC (mnorm m))), nI' (maK (mnorm m))]) []
    (mkOkE h ++ [(sZero h0).e, (sToldR ((fitM_sz h).mono (by decide)) (gz_false.1 h0)).e]) [(10, 15)] 1200 Tryz.func35 hmA (by kernel_rfl) (fun β => by kernel_rfl)
end Go.Proofs.YtiolbdleihiocaaGreat.Y
end
/- The references' texts, of some small numbers. -/
section
namespace Go.Proofs.YtiolbdleihiocaaGreat
theorem mag_1 : mag 1 = ⟨#[1]⟩ := by unfold mag; rw [led_pos 1 (by decide), led_zero]; rfl
theorem mag_2 : mag 2 = ⟨#[2]⟩ := by unfold mag; rw [led_pos 2 (by decide), led_zero]; rfl
theorem mag_0 : mag 0 = ⟨#[]⟩ := by unfold mag; rw [led_zero]; rfl
theorem dig_1 : dig 1 = [1] := by rw [dig_pos 1 (by decide), dig_zero]
theorem dig_2 : dig 2 = [2] := by rw [dig_pos 2 (by decide), dig_zero]
end Go.Proofs.YtiolbdleihiocaaGreat
namespace Go.Proofs.YtiolbdleihiocaaGreat.Y
open Go Go.RowKit
set_option maxRecDepth 100000

/-- The words of a number. -/
def WR (xs : List Nat) (w : World) (g : Pl) : Prop := (∀ c, ¬ g.F c) ∧ Words w (.slice (g.v 0) xs.length (g.c 0)) xs
theorem wr_stable (xs : List Nat) : Stable (WR xs) :=
  ⟨fun w g ⟨h, _⟩ c hc => (h c hc).elim, fun w w' g ⟨h, k⟩ hb => ⟨h, k.below hb⟩, fun w w' g b o m n ⟨h, k⟩ hs ht _ => ⟨h, Words.touch k hs ht⟩⟩
def wrT (xs : List Nat) : Thing := thing (WR xs) (wr_stable xs)
def wPl (A : Option Addr) (c : Nat) : Pl := ⟨0, fun _ => A, fun _ => c, fun _ => False⟩
theorem words_ok {s : ByteArray} {n : Nat} {xs : List Nat} (hs : s = mag n) (hm : s.size ≤ 4294967296) (hx : dig n = xs) (β : Env) (w : World) :
    Calls Tryz.prog 265 #[.string s] w fun e w' => ∃ ys : List Pl, freshS β w 0 ys ∧ e = .returned ((SV.one (.c (.b (.y 0 0 xs.length)))).den (extE β 0 ys)) ∧ newHold w' [wrT xs] ys ∧ Below w.heap.size w w' := by
  refine (words_any s n hs hm).mono fun e w' ⟨A, c, he, h1, h2⟩ => ⟨[wPl A c], fun x hx c hc => ?_, ?_, ⟨⟨fun _ h => h, ?_⟩, trivial⟩, h2⟩
  · rw [List.mem_singleton.1 hx] at hc; exact hc.elim
  · rw [he, hx]; rfl
  · rw [hx] at h1; exact h1
def sWords {s : ByteArray} {n : Nat} {xs : List Nat} (hs : s = mag n) (hm : s.size ≤ 4294967296) (hx : dig n = xs) {l : Nat} (hl : xs.length = l) : Spec Tryz.prog :=
  ⟨265, Tryz.call265, [.one (.c (.b (.v (.string s))))], [], .one (.c (.b (.y 0 0 l))), [wrT xs], fun β w _ => by rw [← hl]; exact words_ok hs hm hx β w, by kernel_rfl⟩
/-- A small one, divided. -/
theorem small_ok {xs : List Nat} {d : Nat} (h1 : xs.length ≤ 17179869184) (hd0 : 0 < d) (hd : d < 4294967296) {ys : List Nat} (hq : dig (val xs / d) = ys) {r : Nat} (hr : val xs % d = r) (β : Env) (w : World) (hh : (wrT xs).D w (β 0)) :
    Calls Tryz.prog 281 #[.slice ((β 0).v 0) xs.length ((β 0).c 0), .int .u64 (d : Int)] w fun e w' => ∃ zs : List Pl, freshS β w 1 zs ∧ e = .returned ((SV.tup [.c (.b (.y 1 0 ys.length)), .c (.b (.v (.int .u64 (r : Int))))]).den (extE β 1 zs)) ∧ newHold w' [wrT ys] zs ∧ Below w.heap.size w w' := by
  refine (small_any hh.2 h1 d hd0 hd).mono fun e w' ⟨v, he, h2, h3⟩ => ?_
  rw [hq] at h2
  obtain ⟨A, c, rfl, hc⟩ := h2.shape
  refine ⟨[wPl A c], fun x hx c hc => ?_, ?_, ⟨⟨fun _ h => h, h2⟩, trivial⟩, h3⟩
  · rw [List.mem_singleton.1 hx] at hc; exact hc.elim
  · rw [he, hr]; rfl
def sSmall {xs : List Nat} {d : Nat} (h1 : xs.length ≤ 17179869184) (hd0 : 0 < d) (hd : d < 4294967296) {ys : List Nat} (hq : dig (val xs / d) = ys) {r : Nat} (hr : val xs % d = r) {l m : Nat} (hl : xs.length = l) (hm : ys.length = m) : Spec Tryz.prog :=
  ⟨281, Tryz.call281, [.one (.c (.b (.y 0 0 l))), .one (.c (.b (.v (.int .u64 (d : Int)))))], [wrT xs], .tup [.c (.b (.y 1 0 m)), .c (.b (.v (.int .u64 (r : Int))))], [wrT ys], fun β w hh => by
    rw [← hl, ← hm]; exact small_ok h1 hd0 hd hq hr β w (hh 0 _ rfl), by kernel_rfl⟩
theorem u8_some : (Tryz.prog.info? 5).isSome = true := by kernel_rfl
/-- Bytes in a row. -/
noncomputable def appB : AppT Tryz.prog :=
  ⟨232, 5, (Tryz.prog.info? 5).get u8_some, .int .u8 0, 1, 1, Tryz.underlying232, (Option.some_get u8_some).symm, by kernel_rfl, by kernel_rfl, by kernel_rfl, rfl, by decide, by decide⟩
abbrev tS (s : ByteArray) : SV := .one (.c (.b (.v (.string s))))
abbrev tW (b : Bool) (s : ByteArray) : SV := .one (.a [.b (.v (.bool b)), .b (.v (.string s))])
def smE1 : Ev Tryz.prog := (sSmall (xs := [1]) (d := 1000000000) (by decide) (by decide) (by decide) (ys := []) (by rw [show val [1] / 1000000000 = 0 by decide]; exact dig_zero) (r := 1) (by decide) (l := 1) rfl (m := 0) rfl).e
def smE2 : Ev Tryz.prog := (sSmall (xs := [2]) (d := 1000000000) (by decide) (by decide) (by decide) (ys := []) (by rw [show val [2] / 1000000000 = 0 by decide]; exact dig_zero) (r := 2) (by decide) (l := 1) rfl (m := 0) rfl).e
noncomputable def sTxtM1 : Spec Tryz.prog := Spec.auto Tryz.call252 [tW true ⟨#[1]⟩] [] (tS ⟨#[45, 49]⟩) []
  [(sWords (s := ⟨#[1]⟩) (n := 1) mag_1.symm (by decide) dig_1 (l := 1) rfl).e, smE1, .app appB, .app appB] [] 3000 Tryz.func252 hmA (by kernel_rfl) (fun β => by kernel_rfl)
noncomputable def sTxt2 : Spec Tryz.prog := Spec.auto Tryz.call252 [tW false ⟨#[2]⟩] [] (tS ⟨#[50]⟩) []
  [(sWords (s := ⟨#[2]⟩) (n := 2) mag_2.symm (by decide) dig_2 (l := 1) rfl).e, smE2, .app appB] [] 3000 Tryz.func252 hmA (by kernel_rfl) (fun β => by kernel_rfl)
end Go.Proofs.YtiolbdleihiocaaGreat.Y
end
/- Package mob: the order of a map whose trace is 0; the references' text of -1/2i. -/
section
namespace Go.Proofs.YtiolbdleihiocaaGreat.Y
open Go Go.RowKit
set_option maxRecDepth 100000

/-- A spec told in other words. -/
def Spec.as {P : Program} (S : Spec P) (args : List SV) (res : SV) (ha : S.args = args) (hr : S.res = res) : Spec P :=
  ⟨S.f, S.en, args, S.obs, res, S.news, fun β w hh => by subst ha; subst hr; exact S.ok β w hh, by subst ha; subst hr; exact S.closed⟩
/-- Two maps that do not turn, whose first numbers differ. -/
noncomputable def sIsA {m n : MQ} (h : MSz KE m) (k : MSz KE n) (ht : m.t = false) (hu : n.t = false) (h0 : gzero (gsub m.a n.a) = false) : Spec Tryz.prog :=
  ⟨219, Tryz.call219, [mV 0 m, mV 8 n], mM m ++ mM n, .one (.c (.b (.v (.bool false)))), [], fun β w hh => by
    obtain ⟨a, b, c, d, t⟩ := m
    obtain ⟨a', b', c', d', t'⟩ := n
    cases ht
    cases hu
    exact spec_auto (args := [mV 0 ⟨a, b, c, d, false⟩, mV 8 ⟨a', b', c', d', false⟩]) (obs := mM ⟨a, b, c, d, false⟩ ++ mM ⟨a', b', c', d', false⟩) (evs := [(sSame (z := a) (w := a') h.a k.a h0).e]) (Ns := []) (m := 400) Tryz.func219 hmA (fun β => by kernel_rfl) (by kernel_rfl) β w hh, by kernel_rfl⟩
theorem still_sz {t : Bool} : MSz KE (mstill t) := ⟨(GSz.int (by decide) (by decide)).mono (by decide), g0_sz (by decide), g0_sz (by decide), (GSz.int (by decide) (by decide)).mono (by decide)⟩
/-- Its trace is 0. -/
noncomputable def sOrder2 {m : MQ} (h : MSz 1024 m) (ht : m.t = false) (h0 : gzero (gsub m.a (gint 1 0)) = false) (h1 : gzero (gmul (gadd m.a m.d) (gadd m.a m.d)) = true) : Spec Tryz.prog :=
  ⟨133, Tryz.call133, [mV 0 m], mM m, .one (.c (.b (.v (.int .i64 2)))), [], fun β w hh => by
    obtain ⟨a, b, c, d, t⟩ := m
    cases ht
    have ha : GSz KE (gadd a d) := (h.a.add h.d).mono (by decide)
    exact spec_auto (args := [mV 0 ⟨a, b, c, d, false⟩]) (obs := mM ⟨a, b, c, d, false⟩) (evs := [sStill.e, (sIsA (m := ⟨a, b, c, d, false⟩) (n := mstill false) (h.mono (by decide)) still_sz rfl rfl h0).e, (sAdd (h.a.mono (by decide)) (h.d.mono (by decide))).e, mulE ha ha, (sZero (z := gmul (gadd a d) (gadd a d)) h1).e]) (Ns := [(1, 4)]) (m := 800) Tryz.func133 hmA (fun β => by kernel_rfl) (by kernel_rfl) β w hh, by kernel_rfl⟩
noncomputable def sOrd2 {m : MQ} (h : MayQ m) (ht : m.t = false) (h0 : gzero (gsub m.a (gint 1 0)) = false) (h1 : gzero (gmul (gadd m.a m.d) (gadd m.a m.d)) = true) : Spec Tryz.prog :=
  Spec.auto Tryz.call30 [.one (.a (mCl m))] [] (.tup [.c (.b (.v (.int .i64 2))), .c (.b (.v (.int .i64 0)))]) []
    [(sOpenYes h).e, (sOrder2 (fitM_sz h.1) ht h0 h1).e] [] 800 Tryz.func30 hmA (by kernel_rfl) (fun β => by kernel_rfl)
/- The text of -1/2i. -/
abbrev tF (b : Bool) (s t : ByteArray) : SV := .one (.a [.b (.v (.bool b)), .b (.v (.string s)), .b (.v (.bool false)), .b (.v (.string t))])
theorem whole1 : wholeV 1 = .agg #[.bool false, .string ⟨#[1]⟩] := by unfold wholeV; rw [show (1 : Int).natAbs = 1 from rfl, mag_1]; rfl
def yWOf1 : Ev Tryz.prog := .ret 207 Tryz.call207 #[.int .i64 1] (.agg #[.bool false, .string ⟨#[1]⟩]) (fun w => by rw [← whole1]; exact rof_any (by decide))
noncomputable def sTxtH : Spec Tryz.prog := Spec.auto Tryz.call191 [tF true ⟨#[1]⟩ ⟨#[2]⟩] [] (tS ⟨#[45, 49, 47, 50]⟩) []
  [yWOf1, eqEvW false false ⟨#[2]⟩ ⟨#[1]⟩ false (by decide +kernel), sTxtM1.e, sTxt2.e] [(1, 4), (3, 9)] 800 Tryz.func191 hmA (by kernel_rfl) (fun β => by kernel_rfl)
abbrev svN0 (k : Int) : SV := .one (.c (.b (.v (.int .i64 k))))
def sSgM : Spec Tryz.prog := Spec.auto Tryz.call222 [tW true ⟨#[1]⟩] [] (svN0 (-1)) [] [] [] 400 Tryz.func222 hmA (by kernel_rfl) (fun β => by kernel_rfl)
def sSg0 : Spec Tryz.prog := Spec.auto Tryz.call222 [tW false ⟨#[]⟩] [] (svN0 0) [] [] [] 400 Tryz.func222 hmA (by kernel_rfl) (fun β => by kernel_rfl)
def sSg3M : Spec Tryz.prog := Spec.auto Tryz.call139 [tF true ⟨#[1]⟩ ⟨#[2]⟩] [] (svN0 (-1)) [] [sSgM.e] [] 400 Tryz.func139 hmA (by kernel_rfl) (fun β => by kernel_rfl)
def sSg30 : Spec Tryz.prog := Spec.auto Tryz.call139 [tF false ⟨#[]⟩ ⟨#[1]⟩] [] (svN0 0) [] [sSg0.e] [] 400 Tryz.func139 hmA (by kernel_rfl) (fun β => by kernel_rfl)
noncomputable def sRealNo : Spec Tryz.prog := Spec.auto Tryz.call71 [.one (.a [.b (.v (.bool false)), .b (.v (.string ⟨#[]⟩)), .b (.v (.bool false)), .b (.v (.string ⟨#[1]⟩)), .b (.v (.bool true)), .b (.v (.string ⟨#[1]⟩)), .b (.v (.bool false)), .b (.v (.string ⟨#[2]⟩))])] [] (.one (.c (.b (.v (.bool false))))) []
  [sSg3M.e] [] 400 Tryz.func71 hmA (by kernel_rfl) (fun β => by kernel_rfl)
noncomputable def sTxtG : Spec Tryz.prog := Spec.auto Tryz.call105 [.one (.a [.b (.v (.bool false)), .b (.v (.string ⟨#[]⟩)), .b (.v (.bool false)), .b (.v (.string ⟨#[1]⟩)), .b (.v (.bool true)), .b (.v (.string ⟨#[1]⟩)), .b (.v (.bool false)), .b (.v (.string ⟨#[2]⟩))])] [] (tS ⟨#[45, 49, 47, 50, 105]⟩) []
  [sTxtH.e, sRealNo.e, sSg30.e] [] 800 Tryz.func105 hmA (by kernel_rfl) (fun β => by kernel_rfl)
end Go.Proofs.YtiolbdleihiocaaGreat.Y
end
/- Maps compared; small numbers. -/
section
namespace Go.Proofs.YtiolbdleihiocaaGreat
open Go Go.RowKit
set_option maxRecDepth 100000

abbrev svI (n : Int) : SC := .c (.b (.v (.int .i64 n)))
theorem sz_lit1 {n : Int} (h : n.natAbs < 256) : Fit (Rat.divInt n 1) := (Sz.small h).fit (by decide)
theorem fit_int {n m : Int} (h : n.natAbs < 256) (k : m.natAbs < 256) : FitG (gint n m) := ⟨sz_lit1 h, sz_lit1 k⟩
/-- A map's cells compared. -/
def mV (a a' b b' c c' d d' : R4) (t : Bool) : Array Value := #[.bool a.b, .string a.s, .bool a.c, .string a.t, .bool a'.b, .string a'.s, .bool a'.c, .string a'.t, .bool b.b, .string b.s, .bool b.c, .string b.t, .bool b'.b, .string b'.s, .bool b'.c, .string b'.t,
  .bool c.b, .string c.s, .bool c.c, .string c.t, .bool c'.b, .string c'.s, .bool c'.c, .string c'.t, .bool d.b, .string d.s, .bool d.c, .string d.t, .bool d'.b, .string d'.s, .bool d'.c, .string d'.t, .bool t]
def gV (a a' : R4) : Array Value := #[.bool a.b, .string a.s, .bool a.c, .string a.t, .bool a'.b, .string a'.s, .bool a'.c, .string a'.t]
def geq (x y x' y' : R4) : Bool := x.eq x' && (y.eq y' && true)
theorem eqM {w : World} (n : Nat) (a a' b b' c c' d d' : R4) (t : Bool) (p p' q q' r r' s s' : R4) (u : Bool) : (Op.equalIn (n + 5) 35 (.agg (mV a a' b b' c c' d d' t)) (.agg (mV p p' q q' r r' s s' u))).run Tryz.prog w = .ok (geq a a' p p' && (geq b b' q q' && (geq c c' r r' && (geq d d' s s' && ((t == u) && true))))) w := by
  unfold mV
  rw [run_equalIn_agg _ _ _ _ _ (by kernel_rfl) (by kernel_rfl)]
  refine run_eqF_cons (a := .agg (gV a a')) (b := .agg (gV p p')) (by kernel_rfl) (by kernel_rfl) (by kernel_rfl) (eqG n _ _ _ _) ?_
  refine run_eqF_cons (a := .agg (gV b b')) (b := .agg (gV q q')) (by kernel_rfl) (by kernel_rfl) (by kernel_rfl) (eqG n _ _ _ _) ?_
  refine run_eqF_cons (a := .agg (gV c c')) (b := .agg (gV r r')) (by kernel_rfl) (by kernel_rfl) (by kernel_rfl) (eqG n _ _ _ _) ?_
  refine run_eqF_cons (a := .agg (gV d d')) (b := .agg (gV s s')) (by kernel_rfl) (by kernel_rfl) (by kernel_rfl) (eqG n _ _ _ _) ?_
  refine run_eqF_cons (a := .bool t) (b := .bool u) (by kernel_rfl) (by kernel_rfl) (by kernel_rfl) (run_equalIn_bool' _ _ _ _ _ (by kernel_rfl)) ?_
  kernel_rfl
theorem geq_self (x y : R4) : geq x y x y = true := by
  unfold geq
  rw [R4.eq_iff.2 rfl, R4.eq_iff.2 rfl]; rfl
def eqEvM (a a' b b' c c' d d' : R4) (t : Bool) : Ev Tryz.prog :=
  eqEv 35 (mV a a' b b' c c' d d' t) (mV a a' b b' c c' d d' t) true (by kernel_rfl) (fun w => by
    have h := eqM (w := w) 9995 a a' b b' c c' d d' t a a' b b' c c' d d' t
    rw [geq_self, geq_self, geq_self, geq_self, show (t == t) = true from beq_self_eq_true t] at h
    exact h)
noncomputable def sR (F : Prop) (x : Rat) : R4 := ⟨selB F (decide (x.num < 0)), selS F (mag x.num.natAbs), false, selS F (mag x.den)⟩
/-- A map that is answered is itself. -/
noncomputable def eqMA (m : MQ) : Ev Tryz.prog := eqEvM (sR (FitM m) m.a.re) (sR (FitM m) m.a.im) (sR (FitM m) m.b.re) (sR (FitM m) m.b.im) (sR (FitM m) m.c.re) (sR (FitM m) m.c.im) (sR (FitM m) m.d.re) (sR (FitM m) m.d.im) (selB (FitM m) m.t)
abbrev svB (b : Bool) : SV := .one (.c (.b (.v (.bool b))))
abbrev pI (n m : Int) : Pt := .fin (gint n m)
theorem pI_fit {n m : Int} (h : n.natAbs < 256) (k : m.natAbs < 256) : FitP (pI n m) := fit_int h k
theorem pI_ne {n m n' m' : Int} (h : ¬ (n = n' ∧ m = m')) : pI n m ≠ pI n' m' := fun e => h (by
  injection e with e
  injection e with e1 e2
  have k1 := congrArg Rat.num e1
  have k2 := congrArg Rat.num e2
  rw [(divInt_one n).1, (divInt_one n').1] at k1
  rw [(divInt_one m).1, (divInt_one m').1] at k2
  exact ⟨k1, k2⟩)
theorem fit_small {z : GQ} (h1 : z.re.num.natAbs < 256) (h2 : z.re.den < 256) (h3 : z.im.num.natAbs < 256) (h4 : z.im.den < 256) : FitP (.fin z) :=
  ⟨Sz.fit (k := 1) ⟨sz_small h1, sz_small (n := (z.re.den : Int)) (by simpa using h2)⟩ (by decide), Sz.fit (k := 1) ⟨sz_small h3, sz_small (n := (z.im.den : Int)) (by simpa using h4)⟩ (by decide)⟩
theorem gq_lit {z w : GQ} (h1 : decide (z.re = w.re) = true) (h2 : decide (z.im = w.im) = true) : z = w := GQ.ext2 (of_decide_eq_true h1) (of_decide_eq_true h2)
theorem mq_ext {m n : MQ} (h1 : m.a = n.a) (h2 : m.b = n.b) (h3 : m.c = n.c) (h4 : m.d = n.d) (h5 : m.t = n.t) : m = n := by cases m; cases n; cases h1; cases h2; cases h3; cases h4; cases h5; rfl
end Go.Proofs.YtiolbdleihiocaaGreat
end
/- The statements of layer 8: their helpers. -/
section
namespace Go.Proofs.YtiolbdleihiocaaGreat
open Go Go.RowKit
set_option maxRecDepth 100000

def sNum8 (k : Int) : Spec Tryz.prog := Spec.auto Tryz.call17 [.one (svI k)] [] (.one (svI k)) [] [] [] 400 Tryz.func17 hmA (by kernel_rfl) (fun β => by kernel_rfl)
def sIn8 (n m : Int) (hn : -9223372036854775808 ≤ n ∧ n ≤ 9223372036854775807 := by decide) (hm : -9223372036854775808 ≤ m ∧ m ≤ 9223372036854775807 := by decide) : Spec Tryz.prog :=
  Spec.auto Tryz.call38 [.one (svI n), .one (svI m)] [] (svG (gint n m)) [] [(sR4Int n m hn hm).e] [] 400 Tryz.func38 hmA (by kernel_rfl) (fun β => by kernel_rfl)
def sAt8 (n m : Int) (hn : -9223372036854775808 ≤ n ∧ n ≤ 9223372036854775807 := by decide) (hm : -9223372036854775808 ≤ m ∧ m ≤ 9223372036854775807 := by decide) : Spec Tryz.prog :=
  Spec.auto Tryz.call104 [.one (svI n), .one (svI m)] [] (svP (.fin (gint n m))) [] [(sIn8 n m hn hm).e] [] 400 Tryz.func104 hmA (by kernel_rfl) (fun β => by kernel_rfl)
/-- How long a part is: at most 120 bytes, at most 1024, more. -/
inductive T3 where
  | lo
  | mid
  | hi
def T3.at (s : ByteArray) : T3 → Prop
  | .lo => decide ((120 : Int) < (s.size : Int)) = false
  | .mid => decide ((120 : Int) < (s.size : Int)) = true ∧ decide ((s.size : Int) ≤ 1024) = true
  | .hi => decide ((120 : Int) < (s.size : Int)) = true ∧ decide ((s.size : Int) ≤ 1024) = false
def T3.yes : T3 → Bool
  | .mid => true
  | _ => false
theorem T3.all (s : ByteArray) : ∃ k : T3, k.at s := by
  cases h : decide ((120 : Int) < (s.size : Int)) with
  | false => exact ⟨.lo, h⟩
  | true => cases h2 : decide ((s.size : Int) ≤ 1024) with
    | true => exact ⟨.mid, h, h2⟩
    | false => exact ⟨.hi, h, h2⟩
theorem T3.few {s : ByteArray} {k : T3} (h : k.at s) (h0 : k.yes = false) (h1 : s.size ≤ 1024) : s.size ≤ 120 := by
  cases k
  · have := of_decide_eq_false h
    omega
  · cases h0
  · have := of_decide_eq_false h.2
    omega
theorem bool_lit {a b : Bool} (h : a = b) : Value.bool a = .bool b := by rw [h]
def evT (d1 d2 : Nat) (s : ByteArray) : (k : T3) → k.at s → List (Ev Tryz.prog)
  | .lo, h => [.eqv d1 (.bool (decide ((120 : Int) < (s.size : Int)))) (.bool false) (bool_lit h)]
  | .mid, h => [.eqv d1 (.bool (decide ((120 : Int) < (s.size : Int)))) (.bool true) (bool_lit h.1), .eqv d2 (.bool (decide ((s.size : Int) ≤ 1024))) (.bool true) (bool_lit h.2)]
  | .hi, h => [.eqv d1 (.bool (decide ((120 : Int) < (s.size : Int)))) (.bool true) (bool_lit h.1), .eqv d2 (.bool (decide ((s.size : Int) ≤ 1024))) (.bool false) (bool_lit h.2)]
def evT2 (x : R4) (a b : T3) (ha : a.at x.s) (hb : b.at x.t) : List (Ev Tryz.prog) := evT 32 38 x.s a ha ++ (bif a.yes then [] else evT 45 51 x.t b hb)
theorem long_ok (x y : R4) (a b c d : T3) (ha : a.at x.s) (hb : b.at x.t) (hc : c.at y.s) (hd : d.at y.t) (β : Env) (w : World) (hh : (Ob.box (x.L ++ y.L) 27).holds β w (β 0)) :
    Calls Tryz.prog 34 (([.one (.c (.b (.s 0 0 1 1)))] : List SV).map (SV.den β)).toArray w fun e w' => e = .returned (.bool ((a.yes || b.yes) || (c.yes || d.yes))) ∧ Below w.heap.size w w' := by
  cases a
  · cases b
    · cases c
      · cases d <;> exact bspec_ok (evT2 x _ _ ha hb ++ evT2 y _ _ hc hd) [(4, 13)] 1200 Tryz.func34 hmA (fun β => by kernel_rfl) (by kernel_rfl) (fun β => rfl) β w hh
      · exact bspec_ok (evT2 x _ _ ha hb ++ evT2 y _ _ hc hd) [(4, 13)] 1200 Tryz.func34 hmA (fun β => by kernel_rfl) (by kernel_rfl) (fun β => rfl) β w hh
      · cases d <;> exact bspec_ok (evT2 x _ _ ha hb ++ evT2 y _ _ hc hd) [(4, 13)] 1200 Tryz.func34 hmA (fun β => by kernel_rfl) (by kernel_rfl) (fun β => rfl) β w hh
    · exact bspec_ok (evT2 x _ _ ha hb) [(4, 13)] 1200 Tryz.func34 hmA (fun β => by kernel_rfl) (by kernel_rfl) (fun β => rfl) β w hh
    · cases c
      · cases d <;> exact bspec_ok (evT2 x _ _ ha hb ++ evT2 y _ _ hc hd) [(4, 13)] 1200 Tryz.func34 hmA (fun β => by kernel_rfl) (by kernel_rfl) (fun β => rfl) β w hh
      · exact bspec_ok (evT2 x _ _ ha hb ++ evT2 y _ _ hc hd) [(4, 13)] 1200 Tryz.func34 hmA (fun β => by kernel_rfl) (by kernel_rfl) (fun β => rfl) β w hh
      · cases d <;> exact bspec_ok (evT2 x _ _ ha hb ++ evT2 y _ _ hc hd) [(4, 13)] 1200 Tryz.func34 hmA (fun β => by kernel_rfl) (by kernel_rfl) (fun β => rfl) β w hh
  · exact bspec_ok (evT2 x _ _ ha hb) [(4, 13)] 1200 Tryz.func34 hmA (fun β => by kernel_rfl) (by kernel_rfl) (fun β => rfl) β w hh
  · cases b
    · cases c
      · cases d <;> exact bspec_ok (evT2 x _ _ ha hb ++ evT2 y _ _ hc hd) [(4, 13)] 1200 Tryz.func34 hmA (fun β => by kernel_rfl) (by kernel_rfl) (fun β => rfl) β w hh
      · exact bspec_ok (evT2 x _ _ ha hb ++ evT2 y _ _ hc hd) [(4, 13)] 1200 Tryz.func34 hmA (fun β => by kernel_rfl) (by kernel_rfl) (fun β => rfl) β w hh
      · cases d <;> exact bspec_ok (evT2 x _ _ ha hb ++ evT2 y _ _ hc hd) [(4, 13)] 1200 Tryz.func34 hmA (fun β => by kernel_rfl) (by kernel_rfl) (fun β => rfl) β w hh
    · exact bspec_ok (evT2 x _ _ ha hb) [(4, 13)] 1200 Tryz.func34 hmA (fun β => by kernel_rfl) (by kernel_rfl) (fun β => rfl) β w hh
    · cases c
      · cases d <;> exact bspec_ok (evT2 x _ _ ha hb ++ evT2 y _ _ hc hd) [(4, 13)] 1200 Tryz.func34 hmA (fun β => by kernel_rfl) (by kernel_rfl) (fun β => rfl) β w hh
      · exact bspec_ok (evT2 x _ _ ha hb ++ evT2 y _ _ hc hd) [(4, 13)] 1200 Tryz.func34 hmA (fun β => by kernel_rfl) (by kernel_rfl) (fun β => rfl) β w hh
      · cases d <;> exact bspec_ok (evT2 x _ _ ha hb ++ evT2 y _ _ hc hd) [(4, 13)] 1200 Tryz.func34 hmA (fun β => by kernel_rfl) (by kernel_rfl) (fun β => rfl) β w hh
/-- Is a number too long to be worked out? -/
structure Lg (x y : R4) (r : Bool) : Prop where
  is : ∃ a b c d : T3, a.at x.s ∧ b.at x.t ∧ c.at y.s ∧ d.at y.t ∧ ((a.yes || b.yes) || (c.yes || d.yes)) = r
theorem Lg.all (x y : R4) : ∃ r, Lg x y r := by
  obtain ⟨a, ha⟩ := T3.all x.s
  obtain ⟨b, hb⟩ := T3.all x.t
  obtain ⟨c, hc⟩ := T3.all y.s
  obtain ⟨d, hd⟩ := T3.all y.t
  exact ⟨_, ⟨a, b, c, d, ha, hb, hc, hd, rfl⟩⟩
def sLong (x y : R4) {r : Bool} (h : Lg x y r) : BSpec Tryz.prog :=
  ⟨34, Tryz.call34, [.one (.c (.b (.s 0 0 1 1)))], x.L ++ y.L, 27, .bool r, fun β w hh => by
    obtain ⟨a, b, c, d, ha, hb, hc, hd, rfl⟩ := h.is
    exact long_ok x y a b c d ha hb hc hd β w hh, by kernel_rfl, fun _ => rfl⟩
theorem Lg.fits {z : GQ} (h : Lg (fR z.re) (fR z.im) false) (hf : FitG z) : GSz 120 z := by
  obtain ⟨a, b, c, d, ha, hb, hc, hd, e⟩ := h.is
  simp only [Bool.or_eq_false_iff] at e
  have h1 := hf.1.sz
  have h2 := hf.2.sz
  refine ⟨⟨T3.few ha e.1.1 h1.1, ?_⟩, T3.few hc e.2.1 h2.1, ?_⟩
  · have := T3.few hb e.1.2 (by have := h1.2; rw [sz_nat] at this; exact this)
    rw [sz_nat]; exact this
  · have := T3.few hd e.2.2 (by have := h2.2; rw [sz_nat] at this; exact this)
    rw [sz_nat]; exact this
theorem off3_ok (T : TypeId) (p q r : Rw) {t1 t2 t3 : Bool} (h1 : Lg p.x p.y t1) (h2 : Lg q.x q.y t2) (h3 : Lg r.x r.y t3) (β : Env) (w : World) (hh : (Ob.box (p.C ++ q.C ++ r.C) T).holds β w (β 0)) :
    Calls Tryz.prog 13 (([.one (.c (.b (.s 0 0 3 3)))] : List SV).map (SV.den β)).toArray w fun e w' => e = .returned (.bool (t1 || (t2 || t3))) ∧ Below w.heap.size w w' := by
  cases t1
  · cases t2
    · cases t3 <;> exact bspec_ok [(sLong p.x p.y h1).e, (sLong q.x q.y h2).e, (sLong r.x r.y h3).e] [] 800 Tryz.func13 hmA (fun β => by kernel_rfl) (by kernel_rfl) (fun β => rfl) β w hh
    · exact bspec_ok [(sLong p.x p.y h1).e, (sLong q.x q.y h2).e] [] 800 Tryz.func13 hmA (fun β => by kernel_rfl) (by kernel_rfl) (fun β => rfl) β w hh
  · exact bspec_ok [(sLong p.x p.y h1).e] [] 800 Tryz.func13 hmA (fun β => by kernel_rfl) (by kernel_rfl) (fun β => rfl) β w hh
structure Off3 (p q r : Rw) (t : Bool) : Prop where
  is : ∃ a b c, Lg p.x p.y a ∧ Lg q.x q.y b ∧ Lg r.x r.y c ∧ (a || (b || c)) = t
theorem Off3.all (p q r : Rw) : ∃ t, Off3 p q r t := by
  obtain ⟨a, ha⟩ := Lg.all p.x p.y
  obtain ⟨b, hb⟩ := Lg.all q.x q.y
  obtain ⟨c, hc⟩ := Lg.all r.x r.y
  exact ⟨_, ⟨a, b, c, ha, hb, hc, rfl⟩⟩
theorem Lg.pt {p : Pt} (h : Lg p.w.x p.w.y false) (hf : FitP p) : PSz 120 p := by
  cases p
  · trivial
  · exact Lg.fits h hf
theorem Off3.fits {p q r : Pt} (h : Off3 p.w q.w r.w false) (hp : FitP p) (hq : FitP q) (hr : FitP r) : PSz 120 p ∧ PSz 120 q ∧ PSz 120 r := by
  obtain ⟨a, b, c, h1, h2, h3, e⟩ := h.is
  simp only [Bool.or_eq_false_iff] at e
  obtain ⟨rfl, rfl, rfl⟩ := e
  exact ⟨h1.pt hp, h2.pt hq, h3.pt hr⟩
def sOff3 (T : TypeId) (p q r : Rw) {t : Bool} (h : Off3 p q r t) : BSpec Tryz.prog :=
  ⟨13, Tryz.call13, [.one (.c (.b (.s 0 0 3 3)))], p.C ++ q.C ++ r.C, T, .bool t, fun β w hh => by
    obtain ⟨a, b, c, ha, hb, hc, rfl⟩ := h.is
    exact off3_ok T p q r ha hb hc β w hh, by kernel_rfl, fun _ => rfl⟩
/- What is answered. -/
noncomputable def sIs8 (M : MQ) : Spec Tryz.prog := Spec.auto Tryz.call19 [.one (.a (maC M)), .one (svI (maK M)), svM M, .one (svI 0)] [] (svB true) []
  [(sR8Told M).e, eqMA M, (sNum8 (maK M)).e, .eqv 23 (.bool (maK M == maK M)) (.bool true) (ieq_self _)] [] 400 Tryz.func19 hmA (by kernel_rfl) (fun β => by kernel_rfl)
def eqM0 : Ev Tryz.prog := eqEvM r40 r40 r40 r40 r40 r40 r40 r40 false
def sIs8c (k : Int) : List (Ev Tryz.prog) := [eqM0, (sNum8 k).e]
noncomputable def sIs8T : Spec Tryz.prog := Spec.auto Tryz.call19 [.one (.a mz8), .one (svI 181), .one (.a mz8), .one (svI 181)] [] (svB true) []
  (sIs8c 181) [] 400 Tryz.func19 hmA (by kernel_rfl) (fun β => by kernel_rfl)
end Go.Proofs.YtiolbdleihiocaaGreat
end
/- The statements of layer 8: a map is made, sends a point, is undone. -/
section
namespace Go.Proofs.YtiolbdleihiocaaGreat
theorem jz_det : gzero (mdet ⟨gint 0 0, gint 2 0, gint 2 0, gint 0 0, false⟩) = false := by kernel_rfl
/-- z to 1/z. -/
def mJ : MQ := ⟨gint 0 0, gint 1 0, gint 1 0, gint 0 0, false⟩
theorem j_norm : mnorm ⟨gint 0 0, gint 2 0, gint 2 0, gint 0 0, false⟩ = mJ := mq_ext (gq_lit (by kernel_rfl) (by kernel_rfl)) (gq_lit (by kernel_rfl) (by kernel_rfl)) (gq_lit (by kernel_rfl) (by kernel_rfl)) (gq_lit (by kernel_rfl) (by kernel_rfl)) rfl
theorem j_inv : minv mJ = mJ := mq_ext (gq_lit (by kernel_rfl) (by kernel_rfl)) (gq_lit (by kernel_rfl) (by kernel_rfl)) (gq_lit (by kernel_rfl) (by kernel_rfl)) (gq_lit (by kernel_rfl) (by kernel_rfl)) rfl
theorem j_fit : FitM mJ := ⟨fit_int (by decide) (by decide), fit_int (by decide) (by decide), fit_int (by decide) (by decide), fit_int (by decide) (by decide)⟩
theorem z2_fit : FitM ⟨gint 0 0, gint 2 0, gint 2 0, gint 0 0, false⟩ := ⟨fit_int (by decide) (by decide), fit_int (by decide) (by decide), fit_int (by decide) (by decide), fit_int (by decide) (by decide)⟩
def gH : GQ := ⟨Rat.divInt 0 1, Rat.divInt (-1) 2⟩
theorem j_half : msend mJ (.fin (gint 0 2)) false = .fin gH := congrArg Pt.fin (gq_lit (by kernel_rfl) (by kernel_rfl))
theorem j_msD : gzero (msD mJ (.fin (gint 0 2))) = false := by kernel_rfl
theorem h_parts : gH.re.num = 0 ∧ gH.re.den = 1 ∧ gH.im.num = -1 ∧ gH.im.den = 2 := by decide +kernel
theorem h_fit : FitP (.fin gH) := fit_small (by rw [h_parts.1]; decide) (by rw [h_parts.2.1]; decide) (by rw [h_parts.2.2.1]; decide) (by rw [h_parts.2.2.2]; decide)
theorem h_cells : paC (.fin gH) = [.b (.v (.bool false)), .b (.v (.bool false)), .b (.v (.string ⟨#[]⟩)), .b (.v (.bool false)), .b (.v (.string ⟨#[1]⟩)), .b (.v (.bool true)), .b (.v (.string ⟨#[1]⟩)), .b (.v (.bool false)), .b (.v (.string ⟨#[2]⟩))] := by
  rw [paC_raw, (pa_fit h_fit).1, (pa_fit h_fit).2.1, (pa_fit h_fit).2.2]
  show rawC false (fR gH.re) (fR gH.im) = _
  unfold fR
  rw [h_parts.1, h_parts.2.1, h_parts.2.2.1, h_parts.2.2.2, show (0 : Int).natAbs = 0 from rfl, show (-1 : Int).natAbs = 1 from rfl, mag_0, mag_1, mag_2]
  rfl
/-- The map of three points. -/
def mK : MQ := ⟨gint 0 0, gint (-2) 0, gint 1 0, gint (-2) 0, false⟩
theorem k_of : mof (pI 0 0) (pI 1 0) (pI 2 0) (pI 1 0) (pI 2 0) .inf false = mK := mq_ext (gq_lit (by kernel_rfl) (by kernel_rfl)) (gq_lit (by kernel_rfl) (by kernel_rfl)) (gq_lit (by kernel_rfl) (by kernel_rfl)) (gq_lit (by kernel_rfl) (by kernel_rfl)) rfl
theorem k_fit : FitM mK := ⟨fit_int (by decide) (by decide), fit_int (by decide) (by decide), fit_int (by decide) (by decide), fit_int (by decide) (by decide)⟩
theorem k_six : Six (pI 0 0) (pI 1 0) (pI 2 0) (pI 1 0) (pI 2 0) .inf := ⟨pI_ne (by decide), pI_ne (by decide), pI_ne (by decide), pI_ne (by decide), (fun e => by cases e), (fun e => by cases e)⟩
theorem k_p6 : P6 (pI 0 0) (pI 1 0) (pI 2 0) (pI 1 0) (pI 2 0) .inf FitP := ⟨pI_fit (by decide) (by decide), pI_fit (by decide) (by decide), pI_fit (by decide) (by decide), pI_fit (by decide) (by decide), pI_fit (by decide) (by decide), trivial⟩
end Go.Proofs.YtiolbdleihiocaaGreat
namespace Go.Proofs.YtiolbdleihiocaaGreat.Y
open Go Go.RowKit
set_option maxRecDepth 100000

theorem j_may : MayQ mJ := ⟨j_fit, by kernel_rfl, .inl (by kernel_rfl)⟩
abbrev q2 (n m : Int) : Pt := .fin (gint n m)
noncomputable def kMake : Spec Tryz.prog :=
  (sMake (m := ⟨gint 0 0, gint 2 0, gint 2 0, gint 0 0, false⟩) z2_fit jz_det).as [gS (gint 0 0), gS (gint 2 0), gS (gint 2 0), gS (gint 0 0), tB' false] (.tup [.a (lsX (mC mJ)), nI' 0]) rfl (by
    show SV.tup [.a (lsX (maC (mnorm ⟨gint 0 0, gint 2 0, gint 2 0, gint 0 0, false⟩))), nI' (maK (mnorm ⟨gint 0 0, gint 2 0, gint 2 0, gint 0 0, false⟩))] = _
    rw [j_norm, (maC_fit j_fit).1, (maC_fit j_fit).2])
noncomputable def kwAt : Spec Tryz.prog :=
  (sAt j_may (p := q2 0 2) (fit_int (by decide) (by decide)) j_msD).as [.one (.a (mCl mJ)), .one (.a (lsX (q2 0 2).w.C))] (.tup [.a [.b (.v (.bool false)), .b (.v (.bool false)), .b (.v (.string ⟨#[]⟩)), .b (.v (.bool false)), .b (.v (.string ⟨#[1]⟩)), .b (.v (.bool true)), .b (.v (.string ⟨#[1]⟩)), .b (.v (.bool false)), .b (.v (.string ⟨#[2]⟩))], nI' 0]) rfl (by
    show SV.tup [.a (lsX (paC (msend mJ (q2 0 2) false))), nI' (paK (msend mJ (q2 0 2) false))] = _
    rw [j_half, paK_fit h_fit, h_cells]
    rfl)
noncomputable def kInv : Spec Tryz.prog :=
  (sInv j_may).as [.one (.a (mCl mJ))] (.tup [.a (lsX (mC mJ)), nI' 0]) rfl (by
    show SV.tup [.a (lsX (maC (minv mJ))), nI' (maK (minv mJ))] = _
    rw [j_inv, (maC_fit j_fit).1, (maC_fit j_fit).2])
noncomputable def kOrd : Spec Tryz.prog := sOrd2 j_may rfl (by kernel_rfl) (by kernel_rfl)
noncomputable def kOf : Spec Tryz.prog :=
  (sOf3 k_p6 false k_six).as [a3 (q2 0 0).w (q2 1 0).w (q2 2 0).w, a3 (q2 1 0).w (q2 2 0).w Pt.inf.w, tB false] (.tup [.a (lsX (mC mK)), nI' 0]) rfl (by
    show SV.tup [.a (lsX (maC (mof (q2 0 0) (q2 1 0) (q2 2 0) (q2 1 0) (q2 2 0) .inf false))), nI' (maK (mof (q2 0 0) (q2 1 0) (q2 2 0) (q2 1 0) (q2 2 0) .inf false))] = _
    rw [k_of, (maC_fit k_fit).1, (maC_fit k_fit).2])
/-- Maps compared. -/
def eqEvM1 (a a' b b' c c' d d' : R4) (t : Bool) : Ev Tryz.prog :=
  eqEv 35 (Go.Proofs.YtiolbdleihiocaaGreat.mV a a' b b' c c' d d' t) (Go.Proofs.YtiolbdleihiocaaGreat.mV a a' b b' c c' d d' t) true (by kernel_rfl) (fun w => by
    have h := eqM (w := w) 9995 a a' b b' c c' d d' t a a' b b' c c' d d' t
    rw [geq_self, geq_self, geq_self, geq_self, show (t == t) = true from beq_self_eq_true t] at h
    exact h)
def eqMC1 (m : MQ) : Ev Tryz.prog := eqEvM1 (fR m.a.re) (fR m.a.im) (fR m.b.re) (fR m.b.im) (fR m.c.re) (fR m.c.im) (fR m.d.re) (fR m.d.im) m.t
noncomputable def nX (k : Int) : Ev Tryz.prog := (Spec.ofX (sNum8 k) rfl rfl).e
noncomputable def inX (n m : Int) (hn : -9223372036854775808 ≤ n ∧ n ≤ 9223372036854775807 := by decide) (hm : -9223372036854775808 ≤ m ∧ m ≤ 9223372036854775807 := by decide) : Ev Tryz.prog := (Spec.ofX (sIn8 n m hn hm) rfl rfl).e
noncomputable def atX (n m : Int) (hn : -9223372036854775808 ≤ n ∧ n ≤ 9223372036854775807 := by decide) (hm : -9223372036854775808 ≤ m ∧ m ≤ 9223372036854775807 := by decide) : Ev Tryz.prog := (Spec.ofX (sAt8 n m hn hm) rfl rfl).e
noncomputable def sWorks : Spec Tryz.prog :=
  Spec.auto Tryz.call14 [] [] (.one (.c (.b (.v (.bool true))))) []
    [inX 0 0, inX 2 0, inX 2 0, inX 0 0, kMake.e, atX 0 2, kwAt.e, kInv.e, kOrd.e, atX 0 0, atX 1 0, atX 2 0, atX 1 0, atX 2 0, kOf.e,
     nX 0, nX 0, sTxtG.e, nX 0, eqMC1 mJ, nX 0, nX 0, inX 0 0, inX (-2) 0, inX 1 0, inX (-2) 0, eqMC1 mK] [(2, 2007008), (6, 48)] 1200 Tryz.func14 hmA (by kernel_rfl) (fun β => by kernel_rfl)
end Go.Proofs.YtiolbdleihiocaaGreat.Y
end
/- What was shown by the newest way, in the words of the elder one: functions of values alone. -/
section
namespace Go.Proofs.YtiolbdleihiocaaGreat.Y
open Go Go.RowKit

theorem Spec.run {P : Program} (S : Spec P) (ho : S.obs = []) (hn : S.news = []) (w : World) :
    Calls P S.f (S.args.map (SV.den idE)).toArray w fun e w' => e = .returned (S.res.den idE) ∧ Below w.heap.size w w' := by
  refine (S.ok idE w (fun k t h => by rw [ho] at h; simp at h)).mono fun e w' ⟨xs, h1, he, hh, hb⟩ => ⟨?_, hb⟩
  rw [he]
  congr 1
  have hc := S.closed
  rw [ho, hn, Bool.and_eq_true] at hc
  exact SV.den_congr (fun k hk => by rw [Nat.blt_eq] at hk; simp at hk) _ hc.2
/-- Such a function, told by the elder way. -/
def Spec.toX {P : Program} (S : Spec P) (ho : S.obs = []) (hn : S.news = []) (args : List XSV) (res : XSV) (ha : args.map svX = S.args) (hr : svX res = S.res) (hc : (args.all (Go.Proofs.YtiolbdleihiocaaGreat.SV.of fun _ => false) && res.of fun _ => false) = true) : XSpec P :=
  ⟨S.f, fun a w => S.en a w, args, [], res, [], fun β w _ => by
    rw [Bool.and_eq_true] at hc
    have h1 := (all_den (svX_den (β := idE) (γ := β)) args hc.1).1
    rw [ha] at h1
    rw [← h1]
    refine (S.run ho hn w).mono fun e w' ⟨he, hb⟩ => ⟨[], (fun _ h => by cases h), List.nodup_nil, ?_, trivial, hb⟩
    rw [he, ← hr]
    exact congrArg Ending.returned (svX_den (β := idE) (γ := Go.Proofs.YtiolbdleihiocaaGreat.extE β 0 []) res hc.2).1, by
    rw [Bool.and_eq_true] at hc ⊢
    exact ⟨List.all_eq_true.2 fun x hx => Go.Proofs.YtiolbdleihiocaaGreat.SV.of_mono (fun k hk => by cases hk) _ (List.all_eq_true.1 hc.1 x hx), Go.Proofs.YtiolbdleihiocaaGreat.SV.of_mono (fun k hk => by cases hk) _ hc.2⟩⟩
end Go.Proofs.YtiolbdleihiocaaGreat.Y
end
/- MobThree, gone through. -/
section
namespace Go.Proofs.YtiolbdleihiocaaGreat
open Go Go.RowKit
set_option maxRecDepth 100000

abbrev sw3 (p q r : Rw) : SV := .one (.a (p.C ++ q.C ++ r.C))
abbrev thrA (p q r s u v : Rw) (t : Bool) : List SV := [sw3 p q r, sw3 s u v, svT t]
abbrev ofR2 : SV := .tup [.a mz8, svN 2]
def xOf1 (p q r s u v : Pp) (t : Bool) (h : (p.B && s.B) = false) : Spec Tryz.prog :=
  (Y.sOfNo1 p q r s u v t rfl rfl h).toX rfl rfl (thrA p.w q.w r.w s.w u.w v.w t) ofR2 rfl rfl rfl
def xOf2 (p q r s u v : Pp) (t : Bool) (ha : p.B = true) (hb : s.B = true) (h : (q.B && u.B) = false) : Spec Tryz.prog :=
  (Y.sOfNo2 p q r s u v t ha hb rfl rfl h).toX rfl rfl (thrA p.w q.w r.w s.w u.w v.w t) ofR2 rfl rfl rfl
def xOf3 (p q r s u v : Pp) (t : Bool) (ha : p.B = true) (hb : s.B = true) (hc : q.B = true) (hd : u.B = true) (h : (r.B && v.B) = false) : Spec Tryz.prog :=
  (Y.sOfNo3 p q r s u v t ha hb hc hd rfl rfl h).toX rfl rfl (thrA p.w q.w r.w s.w u.w v.w t) ofR2 rfl rfl rfl
def all6 (p q r s u v : Pp) : Bool := p.B && (s.B && (q.B && (u.B && (r.B && v.B))))
/-- A point of them may not be. -/
def xOfNo (p q r s u v : Pp) (t : Bool) (h : all6 p q r s u v = false) : Spec Tryz.prog :=
  ⟨15, Tryz.call15, thrA p.w q.w r.w s.w u.w v.w t, [], ofR2, [], fun β w hh => by
    cases h1 : p.B && s.B with
    | false => exact (xOf1 p q r s u v t h1).ok β w hh
    | true =>
      have k1 := (Bool.and_eq_true _ _ ▸ h1 : p.B = true ∧ s.B = true)
      cases h2 : q.B && u.B with
      | false => exact (xOf2 p q r s u v t k1.1 k1.2 h2).ok β w hh
      | true =>
        have k2 := (Bool.and_eq_true _ _ ▸ h2 : q.B = true ∧ u.B = true)
        refine (xOf3 p q r s u v t k1.1 k1.2 k2.1 k2.2 ?_).ok β w hh
        unfold all6 at h
        rw [k1.1, k1.2, k2.1, k2.2] at h
        exact h, by kernel_rfl⟩
noncomputable def xWorks : Spec Tryz.prog := Y.sWorks.toX rfl rfl [] (svB true) rfl rfl rfl
section
variable {p q r s u v : Pt}
def xOfTwin (z : P6 p q r s u v FitP) (t : Bool) (h : (ptB p q || ptB s u || ptB q r || ptB u v || ptB r p || ptB v s) = true) : Spec Tryz.prog :=
  (Y.sOfTwin z t rfl rfl rfl rfl rfl rfl h).toX rfl rfl (thrA p.w q.w r.w s.w u.w v.w t) (.tup [.a mz8, svN 181]) rfl rfl rfl
noncomputable def xOf (z : P6 p q r s u v FitP) (t : Bool) (h : Six p q r s u v) : Spec Tryz.prog :=
  (Y.sOf3 z t h).toX rfl rfl (thrA p.w q.w r.w s.w u.w v.w t) (.tup [.a (maC (mof p q r s u v t)), svN (maK (mof p q r s u v t))]) rfl rfl (by kernel_rfl)
end
def sR7MayP {a : Pt} (ha : FitP a) : Spec Tryz.prog :=
  (sR7May (ppt a ha) (b := true) (ppt_B a ha)).as [svP a] (svB true) (by cases a <;> rfl) rfl
noncomputable def thr1w (p q r s u v : Rw) (t : Bool) (h : Off3 p q r true) : Spec Tryz.prog :=
  Spec.auto Tryz.call3 (thrA p q r s u v t) [] (svB true) [] [(sOff3 30 p q r h).e, xWorks.e] [] 1200 Tryz.func3 hmA (by kernel_rfl) (fun β => by kernel_rfl)
noncomputable def thr2w (p q r s u v : Rw) (t : Bool) (h : Off3 p q r false) (h2 : Off3 s u v true) : Spec Tryz.prog :=
  Spec.auto Tryz.call3 (thrA p q r s u v t) [] (svB true) [] [(sOff3 30 p q r h).e, (sOff3 30 s u v h2).e, xWorks.e] [] 1200 Tryz.func3 hmA (by kernel_rfl) (fun β => by kernel_rfl)
section
variable (p q r s u v : Pp) (t : Bool) {a b c d e f : Bool} (ha : p.B = a) (hb : s.B = b) (hc : q.B = c) (hd : u.B = d) (he : r.B = e) (hf : v.B = f)
def may6E : List (Ev Tryz.prog) :=
  (sR7May p ha).e :: (bif a then (sR7May s hb).e :: (bif b then (sR7May q hc).e :: (bif c then (sR7May u hd).e :: (bif d then (sR7May r he).e :: (bif e then [(sR7May v hf).e] else []) else []) else []) else []) else [])
noncomputable def thrBE (h1 : Off3 p.w q.w r.w false) (h2 : Off3 s.w u.w v.w false) (h : all6 p q r s u v = false) : List (Ev Tryz.prog) :=
  [(sOff3 30 p.w q.w r.w h1).e, (sOff3 30 s.w u.w v.w h2).e, (xOfNo p q r s u v t h).e] ++ may6E p q r s u v ha hb hc hd he hf ++ [eqM0, (sNum8 2).e, xWorks.e]
set_option maxHeartbeats 4000000 in
noncomputable def thr3w (h1 : Off3 p.w q.w r.w false) (h2 : Off3 s.w u.w v.w false) (h : all6 p q r s u v = false) (hn : (a && (b && (c && (d && (e && f))))) = false) : Spec Tryz.prog :=
  ⟨3, Tryz.call3, thrA p.w q.w r.w s.w u.w v.w t, [], svB true, [], fun β w hh => by
    cases a
    · exact spec_auto (evs := thrBE p q r s u v t ha hb hc hd he hf h1 h2 h) (Ns := []) (m := 1200) Tryz.func3 hmA (fun β => by kernel_rfl) (by kernel_rfl) β w hh
    · cases b
      · exact spec_auto (evs := thrBE p q r s u v t ha hb hc hd he hf h1 h2 h) (Ns := []) (m := 1200) Tryz.func3 hmA (fun β => by kernel_rfl) (by kernel_rfl) β w hh
      · cases c
        · exact spec_auto (evs := thrBE p q r s u v t ha hb hc hd he hf h1 h2 h) (Ns := []) (m := 1200) Tryz.func3 hmA (fun β => by kernel_rfl) (by kernel_rfl) β w hh
        · cases d
          · exact spec_auto (evs := thrBE p q r s u v t ha hb hc hd he hf h1 h2 h) (Ns := []) (m := 1200) Tryz.func3 hmA (fun β => by kernel_rfl) (by kernel_rfl) β w hh
          · cases e
            · exact spec_auto (evs := thrBE p q r s u v t ha hb hc hd he hf h1 h2 h) (Ns := []) (m := 1200) Tryz.func3 hmA (fun β => by kernel_rfl) (by kernel_rfl) β w hh
            · cases f
              · exact spec_auto (evs := thrBE p q r s u v t ha hb hc hd he hf h1 h2 h) (Ns := []) (m := 1200) Tryz.func3 hmA (fun β => by kernel_rfl) (by kernel_rfl) β w hh
              · exact Bool.noConfusion hn, by kernel_rfl⟩
end
section
variable {p q r s u v : Pt} (z : P6 p q r s u v FitP) (t : Bool) (h1 : Off3 p.w q.w r.w false) (h2 : Off3 s.w u.w v.w false)
noncomputable def thrGE (F : Spec Tryz.prog) : List (Ev Tryz.prog) :=
  [(sOff3 30 p.w q.w r.w h1).e, (sOff3 30 s.w u.w v.w h2).e, F.e, (sR7MayP z.1).e, (sR7MayP z.2.2.2.1).e, (sR7MayP z.2.1).e, (sR7MayP z.2.2.2.2.1).e, (sR7MayP z.2.2.1).e, (sR7MayP z.2.2.2.2.2).e]
noncomputable def thr4w (h : (ptB p q || ptB s u || ptB q r || ptB u v || ptB r p || ptB v s) = true) : Spec Tryz.prog :=
  Spec.auto Tryz.call3 (thrA p.w q.w r.w s.w u.w v.w t) [] (svB true) []
    (thrGE z h1 h2 (xOfTwin z t h) ++ [(sR8OfTwin t rfl rfl rfl rfl rfl rfl h).e, sIs8T.e, xWorks.e]) [] 1200 Tryz.func3 hmA (by kernel_rfl) (fun β => by kernel_rfl)
noncomputable def thr5w (z8 : P6 p q r s u v (PSz KT)) (h : Six p q r s u v) : Spec Tryz.prog :=
  Spec.auto Tryz.call3 (thrA p.w q.w r.w s.w u.w v.w t) [] (svB true) []
    (thrGE z h1 h2 (xOf z t h) ++ [(sR8Of z8 t h).e, (sIs8 (mof p q r s u v t)).e, xWorks.e]) [] 1200 Tryz.func3 hmA (by kernel_rfl) (fun β => by kernel_rfl)
end
def vRw (r : Rw) : List Value := [.bool r.i, .bool r.x.b, .string r.x.s, .bool r.x.c, .string r.x.t, .bool r.y.b, .string r.y.s, .bool r.y.c, .string r.y.t]
theorem spec_yes {P : Program} (S : Spec P) (ho : S.obs = []) (hr : S.res = svB true) (w : World) : Calls P S.f (S.args.map (SV.den idE)).toArray w fun e w' => e = .returned (.bool true) ∧ Below w.heap.size w w' := by
  refine (S.ok idE w (by rw [ho]; intro k t h; simp at h)).mono ?_
  rintro e w' ⟨xs, _, _, rfl, _, hb⟩
  exact ⟨by rw [hr]; rfl, hb⟩
theorem MobThree_walk (p q r s u v : Rw) (t : Bool) (hp : p.ok) (hq : q.ok) (hr : r.ok) (hs : s.ok) (hu : u.ok) (hv : v.ok) (w : World) :
    Calls Tryz.prog 3 #[.agg (vRw p ++ vRw q ++ vRw r).toArray, .agg (vRw s ++ vRw u ++ vRw v).toArray, .bool t] w fun e w' => e = .returned (.bool true) ∧ Below w.heap.size w w' := by
  obtain ⟨o1, h1⟩ := Off3.all p q r
  obtain ⟨o2, h2⟩ := Off3.all s u v
  cases o1 with
  | true => exact spec_yes (thr1w p q r s u v t h1) rfl rfl w
  | false => cases o2 with
  | true => exact spec_yes (thr2w p q r s u v t h1 h2) rfl rfl w
  | false =>
    obtain ⟨p', rfl⟩ := pp_of p hp
    obtain ⟨q', rfl⟩ := pp_of q hq
    obtain ⟨r', rfl⟩ := pp_of r hr
    obtain ⟨s', rfl⟩ := pp_of s hs
    obtain ⟨u', rfl⟩ := pp_of u hu
    obtain ⟨v', rfl⟩ := pp_of v hv
    cases hb : all6 p' q' r' s' u' v' with
    | false => exact spec_yes (thr3w p' q' r' s' u' v' t rfl rfl rfl rfl rfl rfl h1 h2 hb hb) rfl rfl w
    | true =>
      unfold all6 at hb
      simp only [Bool.and_eq_true] at hb
      obtain ⟨b1, b4, b2, b5, b3, b6⟩ := hb
      obtain ⟨a, ha, rfl⟩ := Pp.good b1
      obtain ⟨b, hb, rfl⟩ := Pp.good b2
      obtain ⟨c, hc, rfl⟩ := Pp.good b3
      obtain ⟨d, hd, rfl⟩ := Pp.good b4
      obtain ⟨e, he, rfl⟩ := Pp.good b5
      obtain ⟨f, hf, rfl⟩ := Pp.good b6
      rw [ppt_w, ppt_w, ppt_w] at h1 h2
      rw [ppt_w, ppt_w, ppt_w, ppt_w, ppt_w, ppt_w]
      have z : P6 a b c d e f FitP := ⟨ha, hb, hc, hd, he, hf⟩
      cases h : (ptB a b || ptB d e || ptB b c || ptB e f || ptB c a || ptB f d) with
      | true => exact spec_yes (thr4w z t h1 h2 h) rfl rfl w
      | false =>
        simp only [Bool.or_eq_false_iff] at h
        obtain ⟨⟨⟨⟨⟨n1, n2⟩, n3⟩, n4⟩, n5⟩, n6⟩ := h
        obtain ⟨f1, f2, f3⟩ := h1.fits ha hb hc
        obtain ⟨f4, f5, f6⟩ := h2.fits hd he hf
        exact spec_yes (thr5w z t h1 h2 ⟨f1.le, f2.le, f3.le, f4.le, f5.le, f6.le⟩ ⟨ptB_ne n1, ptB_ne n3, ptB_ne n5, ptB_ne n2, ptB_ne n4, ptB_ne n6⟩) rfl rfl w
end Go.Proofs.YtiolbdleihiocaaGreat
end
/- A fraction that came in, opened. -/
section
namespace Go.Proofs.YtiolbdleihiocaaGreat
open Go.ChangeShapes Go.WideShapes Go.ChangeAt Go.RowKit

theorem cellsOf_bool : Tryz.prog.cellsOf 4 = 1 := by kernel_rfl
theorem cellsOf_string : Tryz.prog.cellsOf 9 = 1 := by kernel_rfl
theorem cellsOf_whole : Tryz.prog.cellsOf 23 = 2 := by kernel_rfl
theorem cellsOf_frac : Tryz.prog.cellsOf 25 = 4 := by kernel_rfl
section
variable {H : Type} {enc : TypeId × Value → H} {w : World} {base : Nat} {spare : Nat → Bool} {held : Bool}
set_option maxRecDepth 100000 in
theorem trod_whole {fuel : Nat} {cs : List Value} {x : DataW H × List MemPlace} (h : DataW.trod enc Tryz.prog w base spare held fuel 23 cs = some x) :
    ∃ (b : Bool) (s : ByteArray), cs = [.bool b, .string s] ∧ s.size ≤ maxLen := by
  obtain ⟨xs, n, rfl, _, hlen, hxl, hf⟩ := DataW.trod_struct Tryz.underlying23 h
  rw [cellsOf_whole] at hlen
  have hx0 : xs[0]? = some (xs[0]'(by rw [hxl]; decide)) := List.getElem?_eq_getElem _
  have hx1 : xs[1]? = some (xs[1]'(by rw [hxl]; decide)) := List.getElem?_eq_getElem _
  have h0 : DataW.trod enc Tryz.prog w base spare held n 4 ((cs.drop 0).take (Tryz.prog.cellsOf 4)) = some _ := (hf 0 _ rfl).trans hx0
  have h1 : DataW.trod enc Tryz.prog w base spare held n 9 ((cs.drop 1).take (Tryz.prog.cellsOf 9)) = some _ := (hf 1 _ rfl).trans hx1
  rw [cellsOf_bool] at h0
  rw [cellsOf_string] at h1
  match cs, hlen with
  | [a, b], _ =>
    obtain ⟨p, e0, _⟩ := DataW.trod_bool Tryz.underlying4 h0
    obtain ⟨s, e1, _, hs⟩ := DataW.trod_string Tryz.underlying9 h1
    cases e0
    cases e1
    exact ⟨p, s, rfl, hs⟩
set_option maxRecDepth 100000 in
theorem trod_frac {fuel : Nat} {cs : List Value} {x : DataW H × List MemPlace} (h : DataW.trod enc Tryz.prog w base spare held fuel 25 cs = some x) :
    ∃ (b c : Bool) (s t : ByteArray), cs = [.bool b, .string s, .bool c, .string t] ∧ s.size ≤ maxLen ∧ t.size ≤ maxLen := by
  obtain ⟨xs, n, rfl, _, hlen, hxl, hf⟩ := DataW.trod_struct Tryz.underlying25 h
  rw [cellsOf_frac] at hlen
  have hx0 : xs[0]? = some (xs[0]'(by rw [hxl]; decide)) := List.getElem?_eq_getElem _
  have hx1 : xs[1]? = some (xs[1]'(by rw [hxl]; decide)) := List.getElem?_eq_getElem _
  have h0 : DataW.trod enc Tryz.prog w base spare held n 23 ((cs.drop 0).take (Tryz.prog.cellsOf 23)) = some _ := (hf 0 _ rfl).trans hx0
  have h1 : DataW.trod enc Tryz.prog w base spare held n 23 ((cs.drop 2).take (Tryz.prog.cellsOf 23)) = some _ := (hf 1 _ rfl).trans hx1
  rw [cellsOf_whole] at h0 h1
  match cs, hlen with
  | [a, b, c, d], _ =>
    obtain ⟨p, s, e0, hs⟩ := trod_whole h0
    obtain ⟨q, t, e1, ht⟩ := trod_whole h1
    cases e0
    cases e1
    exact ⟨p, q, s, t, rfl, hs, ht⟩
end
end Go.Proofs.YtiolbdleihiocaaGreat
end
/- Numbers, points, maps that came in, opened. -/
section
namespace Go.Proofs.YtiolbdleihiocaaGreat
open Go Go.ChangeShapes Go.WideShapes Go.ChangeAt Go.RowKit

theorem cellsOf_gauss : Tryz.prog.cellsOf 27 = 8 := by kernel_rfl
theorem cellsOf_point : Tryz.prog.cellsOf 29 = 9 := by kernel_rfl
theorem cellsOf_p3 : Tryz.prog.cellsOf 30 = 27 := by kernel_rfl
theorem okWide_array {P : Program} {w : World} {r : Reach} {base : Nat} {t e : TypeId} {v : Value} {n : Nat} (ht : P.underlying t = some (.array n e)) (h : Value.okWide P w r base t v) : ∃ cs, v = .agg cs ∧ cs.size = P.cellsOf t := by
  simp only [Value.okWide, ht] at h
  obtain ⟨cs, h1, h2, _⟩ := h
  exact ⟨cs, h1, h2⟩
theorem chunk {α : Type} (cs : List α) (a b : Nat) : cs.drop a = (cs.drop a).take b ++ cs.drop (a + b) := by
  rw [← List.drop_drop, List.take_append_drop]
def R4.ok (x : R4) : Prop := x.s.size ≤ maxLen ∧ x.t.size ≤ maxLen
section
variable {H : Type} {enc : TypeId × Value → H} {w : World} {base : Nat} {spare : Nat → Bool} {held : Bool}
theorem trod_r4 {fuel : Nat} {cs : List Value} {x : DataW H × List MemPlace} (h : DataW.trod enc Tryz.prog w base spare held fuel 25 cs = some x) : ∃ r : R4, cs = r.V ∧ r.ok := by
  obtain ⟨b, c, s, t, e, h1, h2⟩ := trod_frac h
  exact ⟨⟨b, s, c, t⟩, e, h1, h2⟩
set_option maxRecDepth 100000 in
theorem trod_gauss {fuel : Nat} {cs : List Value} {x : DataW H × List MemPlace} (h : DataW.trod enc Tryz.prog w base spare held fuel 27 cs = some x) : ∃ r s : R4, cs = r.V ++ s.V ∧ r.ok ∧ s.ok := by
  obtain ⟨xs, n, rfl, _, hlen, hxl, hf⟩ := DataW.trod_struct Tryz.underlying27 h
  rw [cellsOf_gauss] at hlen
  have hx0 : xs[0]? = some (xs[0]'(by rw [hxl]; decide)) := List.getElem?_eq_getElem _
  have hx1 : xs[1]? = some (xs[1]'(by rw [hxl]; decide)) := List.getElem?_eq_getElem _
  have h0 : DataW.trod enc Tryz.prog w base spare held n 25 ((cs.drop 0).take (Tryz.prog.cellsOf 25)) = some _ := (hf 0 _ rfl).trans hx0
  have h1 : DataW.trod enc Tryz.prog w base spare held n 25 ((cs.drop 4).take (Tryz.prog.cellsOf 25)) = some _ := (hf 1 _ rfl).trans hx1
  rw [cellsOf_frac] at h0 h1
  obtain ⟨r, e0, k0⟩ := trod_r4 h0
  obtain ⟨s, e1, k1⟩ := trod_r4 h1
  refine ⟨r, s, ?_, k0, k1⟩
  have := chunk cs 0 4
  rw [e0, List.drop_zero] at this
  rw [this, chunk cs (0 + 4) 4, e1, List.drop_of_length_le (by omega), List.append_nil]
set_option maxRecDepth 100000 in
theorem trod_point {fuel : Nat} {cs : List Value} {x : DataW H × List MemPlace} (h : DataW.trod enc Tryz.prog w base spare held fuel 29 cs = some x) : ∃ (i : Bool) (r s : R4), cs = .bool i :: (r.V ++ s.V) ∧ r.ok ∧ s.ok := by
  obtain ⟨xs, n, rfl, _, hlen, hxl, hf⟩ := DataW.trod_struct Tryz.underlying29 h
  rw [cellsOf_point] at hlen
  have hx0 : xs[0]? = some (xs[0]'(by rw [hxl]; decide)) := List.getElem?_eq_getElem _
  have hx1 : xs[1]? = some (xs[1]'(by rw [hxl]; decide)) := List.getElem?_eq_getElem _
  have h0 : DataW.trod enc Tryz.prog w base spare held n 4 ((cs.drop 0).take (Tryz.prog.cellsOf 4)) = some _ := (hf 0 _ rfl).trans hx0
  have h1 : DataW.trod enc Tryz.prog w base spare held n 27 ((cs.drop 1).take (Tryz.prog.cellsOf 27)) = some _ := (hf 1 _ rfl).trans hx1
  rw [cellsOf_bool] at h0
  rw [cellsOf_gauss] at h1
  obtain ⟨r, s, e1, k1⟩ := trod_gauss h1
  have e3 : cs.drop 1 = r.V ++ s.V := by
    have := chunk cs 1 8
    rw [e1] at this
    rw [this, List.drop_of_length_le (show cs.length ≤ 1 + 8 by omega), List.append_nil]
  have e2 : cs = cs.take 1 ++ (r.V ++ s.V) := by rw [← e3, List.take_append_drop]
  match hc : (cs.take 1), (show (cs.take 1).length = 1 by rw [List.length_take]; omega) with
  | [a], _ =>
    rw [List.drop_zero, hc] at h0
    obtain ⟨i, e0, _⟩ := DataW.trod_bool Tryz.underlying4 h0
    refine ⟨i, r, s, ?_, k1⟩
    rw [hc] at e2
    rw [e2]
    cases e0
    rfl
def Rw.V (r : Bool × R4 × R4) : List Value := .bool r.1 :: (r.2.1.V ++ r.2.2.V)
set_option maxRecDepth 100000 in
theorem open_p3 {r : Reach} {b0 : Nat} {v : Value} {d : DataW H} {p : List MemPlace} (hv : Value.okWide Tryz.prog w r b0 30 v) (h : DataW.Trod enc Tryz.prog w base spare held 30 v d p) :
    ∃ (i j k : Bool) (a b c d e f : R4), v = .agg ((.bool i :: (a.V ++ b.V)) ++ (.bool j :: (c.V ++ d.V)) ++ (.bool k :: (e.V ++ f.V))).toArray ∧ (a.ok ∧ b.ok) ∧ (c.ok ∧ d.ok) ∧ e.ok ∧ f.ok := by
  obtain ⟨cs, rfl, hsz⟩ := okWide_array Tryz.underlying30 hv
  obtain ⟨fuel, hf⟩ := h
  obtain ⟨l⟩ := cs
  obtain ⟨xs, n, rfl, _, hlen, hxl, hg⟩ := DataW.trod_array Tryz.underlying30 hf
  simp only [Value.cells] at hlen hg
  rw [cellsOf_p3] at hlen
  rw [cellsOf_point] at hg
  have key : ∀ i, i < 3 → ∃ (j : Bool) (r s : R4), (l.drop (i * 9)).take 9 = .bool j :: (r.V ++ s.V) ∧ r.ok ∧ s.ok := fun i hi => by
    have hx : xs[i]? = some (xs[i]'(by rw [hxl]; exact hi)) := List.getElem?_eq_getElem _
    exact trod_point ((hg i hi).trans hx)
  obtain ⟨i0, a0, b0, e0, k0⟩ := key 0 (by decide)
  obtain ⟨i1, a1, b1, e1, k1⟩ := key 1 (by decide)
  obtain ⟨i2, a2, b2, e2, k2⟩ := key 2 (by decide)
  refine ⟨i0, i1, i2, a0, b0, a1, b1, a2, b2, ?_, k0, k1, k2⟩
  have c0 := chunk l (0 * 9) 9
  have c1 := chunk l (1 * 9) 9
  have c2 := chunk l (2 * 9) 9
  rw [e2, List.drop_of_length_le (show l.length ≤ 2 * 9 + 9 by omega), List.append_nil] at c2
  rw [e1, show 1 * 9 + 9 = 2 * 9 by rfl, c2] at c1
  rw [e0, show 0 * 9 + 9 = 1 * 9 by rfl, c1, show 0 * 9 = 0 by rfl, List.drop_zero] at c0
  rw [c0]
  simp only [List.append_assoc, List.cons_append]
end
end Go.Proofs.YtiolbdleihiocaaGreat
end
