/- ExF, Eqs, Spot, MayP, ExG, Rs4, Pts, CrA, Alg. -/
import Derived.Test.YtiolbdleihiocaaGreatPk13
namespace Go.Proofs.YtiolbdleihiocaaGreat
set_option linter.unnecessarySimpa false
set_option linter.unusedVariables false
set_option linter.unusedSimpArgs false
/- Package exact: maps and points that are answered. -/
section
open Go Go.RowKit
set_option maxRecDepth 100000

theorem gaK_ne {z : GQ} {r : Bool} (h : (gaK z != 0) = r) : Value.bool (gaK z != 0) = .bool r := by rw [h]
theorem gaK_fit {z : GQ} (h : FitG z) : (gaK z != 0) = false := by rw [(ga_fit h).2]; rfl
theorem gaK_not {z : GQ} (h : ¬ FitG z) : (gaK z != 0) = true := by rw [(ga_not h).2]; rfl
/-- May a map be answered? -/
def FitM (m : MQ) : Prop := FitG m.a ∧ FitG m.b ∧ FitG m.c ∧ FitG m.d
open Classical in
noncomputable def selB (F : Prop) (b : Bool) : Bool := if F then b else false
open Classical in
noncomputable def selS (F : Prop) (s : ByteArray) : ByteArray := if F then s else ⟨#[]⟩
open Classical in
noncomputable def maK (m : MQ) : Int := if FitM m then 0 else 4
/-- A number's cells, or none. -/
noncomputable def gsC (F : Prop) (z : GQ) : List Lf := [.b (.v (.bool (selB F (decide (z.re.num < 0))))), .b (.v (.string (selS F (mag z.re.num.natAbs)))), .b (.v (.bool false)), .b (.v (.string (selS F (mag z.re.den)))), .b (.v (.bool (selB F (decide (z.im.num < 0))))), .b (.v (.string (selS F (mag z.im.num.natAbs)))), .b (.v (.bool false)), .b (.v (.string (selS F (mag z.im.den))))]
theorem gsC_yes {F : Prop} (h : F) (z : GQ) : gsC F z = gC z := by
  unfold gsC gC selB selS
  simp only [if_pos h]
theorem gsC_no {F : Prop} (h : ¬ F) (z : GQ) : gsC F z = g0C := by
  unfold gsC g0C selB selS
  simp only [if_neg h]
noncomputable def maC (m : MQ) : List Lf := gsC (FitM m) m.a ++ gsC (FitM m) m.b ++ gsC (FitM m) m.c ++ gsC (FitM m) m.d ++ [.b (.v (.bool (selB (FitM m) m.t)))]
theorem maC_yes {m : MQ} (h : FitM m) : maC m = gaC m.a ++ gaC m.b ++ gaC m.c ++ gaC m.d ++ [.b (.v (.bool m.t))] ∧ maK m = 0 := by
  unfold maC
  simp only [gsC_yes h, (ga_fit h.1).1, (ga_fit h.2.1).1, (ga_fit h.2.2.1).1, (ga_fit h.2.2.2).1]
  exact ⟨by rw [show selB (FitM m) m.t = m.t from if_pos h], if_pos h⟩
theorem maC_no {m : MQ} (h : ¬ FitM m) : maC m = g0C ++ g0C ++ g0C ++ g0C ++ [.b (.v (.bool false))] ∧ maK m = 4 := by
  unfold maC
  simp only [gsC_no h]
  exact ⟨by rw [show selB (FitM m) m.t = false from if_neg h], if_neg h⟩
noncomputable def tE {z : GQ} (hz : GSz KB z) (r : Bool) (h : (gaK z != 0) = r) : List (Ev Tryz.prog) := [(sTold hz).e, .eqv 43 (.bool (gaK z != 0)) (.bool r) (gaK_ne h)]
noncomputable def sToldM {m : MQ} (h : MSz KM m) {b : Bool} (hb : gzero m.c = b) (h0 : gzero (bif b then m.d else m.c) = false) : Spec Tryz.prog :=
  ⟨111, Tryz.call111, [.one (mxA 0 m)], mxT m, .tup [.a (maC (mnormB m b)), .c (.b (.v (.int .i64 (maK (mnormB m b)))))], [], fun β w hh => by
    have hn := (h.normB h0).mono (show dsz KM ≤ KB by decide)
    by_cases h1 : FitG (mnormB m b).a
    · by_cases h2 : FitG (mnormB m b).b
      · by_cases h3 : FitG (mnormB m b).c
        · by_cases h4 : FitG (mnormB m b).d
          · rw [(maC_yes ⟨h1, h2, h3, h4⟩).1, (maC_yes ⟨h1, h2, h3, h4⟩).2]
            exact spec_auto (evs := [(sNormal h hb h0).e] ++ tE hn.a false (gaK_fit h1) ++ tE hn.b false (gaK_fit h2) ++ tE hn.c false (gaK_fit h3) ++ tE hn.d false (gaK_fit h4)) (Ns := []) (m := 800) Tryz.func111 hmA (fun β => by kernel_rfl) (by kernel_rfl) β w hh
          · have hN : ¬ FitM (mnormB m b) := fun e => h4 e.2.2.2
            rw [(maC_no hN).1, (maC_no hN).2]
            exact spec_auto (evs := [(sNormal h hb h0).e] ++ tE hn.a false (gaK_fit h1) ++ tE hn.b false (gaK_fit h2) ++ tE hn.c false (gaK_fit h3) ++ [(sTold hn.d).e, .eqv 43 (.bool (gaK (mnormB m b).d != 0)) (.bool true) (gaK_ne (gaK_not h4)), .eqv 45 (.int .i64 (gaK (mnormB m b).d)) (.int .i64 4) (by rw [(ga_not h4).2])]) (Ns := []) (m := 800) Tryz.func111 hmA (fun β => by kernel_rfl) (by kernel_rfl) β w hh
        · have hN : ¬ FitM (mnormB m b) := fun e => h3 e.2.2.1
          rw [(maC_no hN).1, (maC_no hN).2]
          exact spec_auto (evs := [(sNormal h hb h0).e] ++ tE hn.a false (gaK_fit h1) ++ tE hn.b false (gaK_fit h2) ++ [(sTold hn.c).e, .eqv 43 (.bool (gaK (mnormB m b).c != 0)) (.bool true) (gaK_ne (gaK_not h3)), .eqv 45 (.int .i64 (gaK (mnormB m b).c)) (.int .i64 4) (by rw [(ga_not h3).2])]) (Ns := []) (m := 800) Tryz.func111 hmA (fun β => by kernel_rfl) (by kernel_rfl) β w hh
      · have hN : ¬ FitM (mnormB m b) := fun e => h2 e.2.1
        rw [(maC_no hN).1, (maC_no hN).2]
        exact spec_auto (evs := [(sNormal h hb h0).e] ++ tE hn.a false (gaK_fit h1) ++ [(sTold hn.b).e, .eqv 43 (.bool (gaK (mnormB m b).b != 0)) (.bool true) (gaK_ne (gaK_not h2)), .eqv 45 (.int .i64 (gaK (mnormB m b).b)) (.int .i64 4) (by rw [(ga_not h2).2])]) (Ns := []) (m := 800) Tryz.func111 hmA (fun β => by kernel_rfl) (by kernel_rfl) β w hh
    · have hN : ¬ FitM (mnormB m b) := fun e => h1 e.1
      rw [(maC_no hN).1, (maC_no hN).2]
      exact spec_auto (evs := [(sNormal h hb h0).e] ++ [(sTold hn.a).e, .eqv 43 (.bool (gaK (mnormB m b).a != 0)) (.bool true) (gaK_ne (gaK_not h1)), .eqv 45 (.int .i64 (gaK (mnormB m b).a)) (.int .i64 4) (by rw [(ga_not h1).2])]) (Ns := []) (m := 800) Tryz.func111 hmA (fun β => by kernel_rfl) (by kernel_rfl) β w hh, by kernel_rfl⟩

/-- A point that is answered. -/
noncomputable def paC : Pt → List Lf
  | .inf => .b (.v (.bool true)) :: g0C
  | .fin z => .b (.v (.bool false)) :: gaC z
noncomputable def paK : Pt → Int
  | .inf => 0
  | .fin z => gaK z
noncomputable def ptE : (p : Pt) → PSz KB p → List (Ev Tryz.prog)
  | .inf, _ => []
  | .fin _, h => [(sTold h).e]
noncomputable def sToldP (p : Pt) (h : PSz KB p) : Spec Tryz.prog :=
  Spec.auto Tryz.call145 [.one (plA 0 p)] (plT p) (.tup [.a (paC p), .c (.b (.v (.int .i64 (paK p))))]) []
    (ptE p h) [] 400 Tryz.func145 hmA (by cases p <;> kernel_rfl) (fun β => by cases p <;> kernel_rfl)
/-- Are two points the same? b: are their numbers, where both have one? -/
def sameP : Pt → Pt → Bool
  | .inf, .inf => true
  | .fin z, .fin w => gzero (gsub z w)
  | _, _ => false
def samE : (p q : Pt) → PSz KE p → PSz KE q → List (Ev Tryz.prog)
  | .inf, .inf, _, _ => [sSame0.e]
  | .fin z, .fin w, h, k => [(sSame (z := z) (w := w) h k rfl).e]
  | _, _, _, _ => []
def sSameP (p q : Pt) (h : PSz KE p) (k : PSz KE q) : Spec Tryz.prog :=
  Spec.auto Tryz.call160 [.one (plA 0 p), .one (plA (plN p) q)] (plT p ++ plT q) (.one (.c (.b (.v (.bool (sameP p q)))))) []
    (samE p q h k) [] 400 Tryz.func160 hmA (by cases p <;> cases q <;> kernel_rfl) (fun β => by cases p <;> cases q <;> kernel_rfl)
end
/- Which values of the program's structs are the same. -/
section
open Go Go.RowKit
set_option maxRecDepth 100000

/-- A point that came in. -/
inductive Pp where
  | inf
  | fin (a b : Fp)
  | odd (x y : R4) (h : ¬ (x = ⟨false, ⟨#[]⟩, false, ⟨#[]⟩⟩ ∧ y = ⟨false, ⟨#[]⟩, false, ⟨#[]⟩⟩))
def R4.L (x : R4) : List Lf := [.b (.v (.bool x.b)), .b (.v (.string x.s)), .b (.v (.bool x.c)), .b (.v (.string x.t))]
def Pp.C : Pp → List Lf
  | .inf => .b (.v (.bool true)) :: g0C
  | .fin a b => .b (.v (.bool false)) :: (a.C ++ b.C)
  | .odd x y _ => .b (.v (.bool true)) :: (x.L ++ y.L)
def Pp.B : Pp → Bool
  | .inf => true
  | .fin a b => a.B && b.B
  | .odd .. => false
def Pp.A (k : Nat) : Pp → List Lf
  | .inf => [.b (.v (.bool true)), nilL, nilL]
  | .fin a b => [.b (.v (.bool false)), a.L k, b.L (k + a.n)]
  | .odd .. => [.b (.v (.bool true)), nilL, nilL]
def Pp.T : Pp → List Thing
  | .fin a b => a.T ++ b.T
  | _ => []
def r40 : R4 := ⟨false, ⟨#[]⟩, false, ⟨#[]⟩⟩
theorem odd_ne {x y : R4} (h : ¬ (x = ⟨false, ⟨#[]⟩, false, ⟨#[]⟩⟩ ∧ y = ⟨false, ⟨#[]⟩, false, ⟨#[]⟩⟩)) : ((true == true) && ((x.eq r40 && (y.eq r40 && true)) && true)) = false := by
  refine Bool.eq_false_iff.2 fun e => h ?_
  simp only [Bool.and_true, Bool.and_eq_true, R4.eq_iff] at e
  exact e.2
def Pp.E : Pp → List (Ev Tryz.prog)
  | .inf => []
  | .fin a b => [(sOf a b).e]
  | .odd x y h => [eqEvP true true x y r40 r40 false (odd_ne h)]
end
/- Package exact: a point that came in. -/
section
open Go Go.RowKit
set_option maxRecDepth 100000

def sSpot (p : Pp) : Spec Tryz.prog :=
  Spec.auto Tryz.call106 [.one (.a p.C)] [] (.tup [.a (p.A 0), .c (.b (.v (.bool p.B)))]) p.T
    p.E [(2, 2004005)] 400 Tryz.func106 hmA (by rcases p with _ | ⟨_ | _, _ | _⟩ | _ <;> kernel_rfl) (fun β => by rcases p with _ | ⟨_ | _, _ | _⟩ | _ <;> kernel_rfl)
end
/- Which numbers and points may be, as the layers say. -/
section
open Go Go.RowKit
set_option maxRecDepth 100000

def Fp.mayE : Fp → Ev Tryz.prog
  | .ok x h => eMayF x h
  | .no b c s t h hs ht => eMay b c s t hs ht false ⟨fun e => Bool.noConfusion e, fun e => absurd e h⟩
def gMayE (a b : Fp) : List (Ev Tryz.prog) := match a with
  | .ok .. => [a.mayE, b.mayE]
  | .no .. => [a.mayE]
def sGMay (a b : Fp) : Spec Tryz.prog :=
  Spec.auto Tryz.call68 [.one (.a (a.C ++ b.C))] [] (.one (.c (.b (.v (.bool (a.B && b.B)))))) []
    (gMayE a b) [] 400 Tryz.func68 hmA (by cases a <;> cases b <;> kernel_rfl) (fun β => by cases a <;> cases b <;> kernel_rfl)
def sInfinity : Spec Tryz.prog :=
  Spec.auto Tryz.call124 [] [] (.one (.a (.b (.v (.bool true)) :: g0C))) [] [] [] 400 Tryz.func124 hmA (by kernel_rfl) (fun β => by kernel_rfl)
def Pp.mayE : Pp → List (Ev Tryz.prog)
  | .inf => [sInfinity.e]
  | .fin a b => [(sGMay a b).e]
  | .odd x y h => [sInfinity.e, eqEvP true true x y r40 r40 false (odd_ne h)]
def sPMay (p : Pp) : Spec Tryz.prog :=
  Spec.auto Tryz.call211 [.one (.a p.C)] [] (.one (.c (.b (.v (.bool p.B))))) []
    p.mayE [(2, 4)] 400 Tryz.func211 hmA (by rcases p with _ | ⟨_ | _, _ | _⟩ | _ <;> kernel_rfl) (fun β => by rcases p with _ | ⟨_ | _, _ | _⟩ | _ <;> kernel_rfl)
end
/- Package exact: where a map sends a point. -/
section
open Go Go.RowKit
set_option maxRecDepth 100000

def mcj (t : Bool) (z : GQ) : GQ := bif t then gconj z else z
theorem mcj_sz {k : Nat} {t : Bool} {z : GQ} (h : GSz k z) : GSz k (mcj t z) := by
  cases t
  · exact h
  · exact h.conj
def msN (m : MQ) : Pt → GQ
  | .inf => m.a
  | .fin z => gadd (gmul m.a (mcj m.t z)) m.b
def msD (m : MQ) : Pt → GQ
  | .inf => m.c
  | .fin z => gadd (gmul m.c (mcj m.t z)) m.d
abbrev ssz (i j : Nat) : Nat := i + j + (i + j) + 1 + i + 1
theorem msN_sz {i j : Nat} {m : MQ} {p : Pt} (h : MSz i m) (hp : PSz j p) : GSz (ssz i j) (msN m p) := by
  cases p
  · exact h.a.mono (by unfold ssz; omega)
  · exact (h.a.mul (mcj_sz hp)).add h.b
theorem msD_sz {i j : Nat} {m : MQ} {p : Pt} (h : MSz i m) (hp : PSz j p) : GSz (ssz i j) (msD m p) := by
  cases p
  · exact h.c.mono (by unfold ssz; omega)
  · exact (h.c.mul (mcj_sz hp)).add h.d
/-- Where m sends p; b: is what it is divided by 0? -/
def msend (m : MQ) (p : Pt) (b : Bool) : Pt := bif b then .inf else .fin (gdiv (msN m p) (msD m p))
def sendE (m : MQ) (h : MSz KE m) : (p : Pt) → PSz KE p → List (Ev Tryz.prog)
  | .inf, _ => []
  | .fin z, hp => (bif m.t then [(sConj (z := z) (GSz.mono hp (by decide))).e] else []) ++ [mulE h.a (mcj_sz (t := m.t) hp), (sAdd ((h.a.mul (mcj_sz (t := m.t) hp)).mono (by decide)) (h.b.mono (by decide))).e,
      mulE h.c (mcj_sz (t := m.t) hp), (sAdd ((h.c.mul (mcj_sz (t := m.t) hp)).mono (by decide)) (h.d.mono (by decide))).e]
def sSend {m : MQ} {p : Pt} (h : MSz KE m) (hp : PSz KE p) {b : Bool} (hb : gzero (msD m p) = b) : Spec Tryz.prog :=
  ⟨144, Tryz.call144, [.one (mxA 0 m), .one (plA 8 p)], mxT m ++ plT p, .one (plA (8 + plN p) (msend m p b)), plT (msend m p b), fun β w hh => by
    obtain ⟨a, b', c, d, t⟩ := m
    cases b
    · rcases p with _ | z
      · cases t <;> exact spec_auto (evs := sendE _ h _ hp ++ [(sZero ((msD_sz h hp).mono (by decide)) hb).e, (sDiv ((msN_sz h hp).mono (by decide)) ((msD_sz h hp).mono (by decide)) hb).e]) (Ns := [(1, 7 + 6000 + 1000000 * 12), (6, 14)]) (m := 800) Tryz.func144 hmA (fun β => by kernel_rfl) (by kernel_rfl) β w hh
      · cases t <;> exact spec_auto (evs := sendE _ h _ hp ++ [(sZero ((msD_sz h hp).mono (by decide)) hb).e, (sDiv ((msN_sz h hp).mono (by decide)) ((msD_sz h hp).mono (by decide)) hb).e]) (Ns := [(1, 7 + 6000 + 1000000 * 14), (6, 14)]) (m := 800) Tryz.func144 hmA (fun β => by kernel_rfl) (by kernel_rfl) β w hh
    · rcases p with _ | z
      · cases t <;> exact spec_auto (evs := sendE _ h _ hp ++ [(sZero ((msD_sz h hp).mono (by decide)) hb).e]) (Ns := [(1, 7 + 6000 + 1000000 * 12), (6, 14)]) (m := 800) Tryz.func144 hmA (fun β => by kernel_rfl) (by kernel_rfl) β w hh
      · cases t <;> exact spec_auto (evs := sendE _ h _ hp ++ [(sZero ((msD_sz h hp).mono (by decide)) hb).e]) (Ns := [(1, 7 + 6000 + 1000000 * 14), (6, 14)]) (m := 800) Tryz.func144 hmA (fun β => by kernel_rfl) (by kernel_rfl) β w hh, by cases p <;> cases b <;> kernel_rfl⟩
end
/- The reference of layer 4, by what it does. -/
section
open Go Go.RowKit
set_option maxRecDepth 100000

theorem gres {z w : GQ} (h : z = w) : SV.one (.a (gC z)) = .one (.a (gC w)) := by rw [h]
theorem Sz.le {i k : Nat} {x : Rat} (h : Sz i x) (hk : Nat.ble i k = true := by decide) : Sz k x := h.mono (Nat.le_of_ble_eq_true hk)
theorem GSz.le {i k : Nat} {z : GQ} (h : GSz i z) (hk : Nat.ble i k = true := by decide) : GSz k z := h.mono (Nat.le_of_ble_eq_true hk)
theorem gsub_eq (z w : GQ) : gadd z (gneg w) = gsub z w := by
  unfold gadd gneg gsub
  simp only [Rat.sub_eq_add_neg]
theorem gdiv_eq (z w : GQ) : gscale (gmul z (gconj w)) (Rat.divInt 1 1 / gnorm w) = gdiv z w := by
  unfold gdiv
  congr 1
  rw [Rat.div_def, show (Rat.divInt 1 1) = 1 by rfl, Rat.one_mul]
abbrev svG (z : GQ) : SV := .one (.a (gC z))
abbrev svF (x : Rat) : SV := .one (.a (fC x))
section
variable {z w : GQ} {x : Rat}
def sR4Neg (z : GQ) : Spec Tryz.prog := Spec.auto Tryz.call77 [svG z] [] (svG (gneg z)) [] [(sR3Neg z.re).e, (sR3Neg z.im).e] [(1, 7)] 400 Tryz.func77 hmA (by kernel_rfl) (fun β => by kernel_rfl)
def sR4Conj (z : GQ) : Spec Tryz.prog := Spec.auto Tryz.call78 [svG z] [] (svG (gconj z)) [] [(sR3Neg z.im).e] [(1, 6)] 400 Tryz.func78 hmA (by kernel_rfl) (fun β => by kernel_rfl)
def sR4Plus (hz : GSz KE z) (hw : GSz KE w) : Spec Tryz.prog := Spec.auto Tryz.call98 [svG z, svG w] [] (svG (gadd z w)) [] [(sR3Plus hz.1.le hw.1.le).e, (sR3Plus hz.2.le hw.2.le).e] [(1, 11)] 400 Tryz.func98 hmA (by kernel_rfl) (fun β => by kernel_rfl)
def sR4Minus (hz : GSz KE z) (hw : GSz KE w) : Spec Tryz.prog := (Spec.auto Tryz.call99 [svG z, svG w] [] (svG (gadd z (gneg w))) [] [(sR4Neg w).e, (sR4Plus hz hw.neg).e] [(1, 4)] 400 Tryz.func99 hmA (by kernel_rfl) (fun β => by kernel_rfl)).conv (svG (gsub z w)) (gres (gsub_eq z w))
def sR4Times (hz : GSz KE z) (hw : GSz KE w) : Spec Tryz.prog := Spec.auto Tryz.call100 [svG z, svG w] [] (svG (gmul z w)) []
  [(sR3Times hz.1.le hw.1.le).e, (sR3Times hz.2.le hw.2.le).e, (sR3Minus (hz.1.mul hw.1).le (hz.2.mul hw.2).le).e, (sR3Times hz.1.le hw.2.le).e, (sR3Times hz.2.le hw.1.le).e, (sR3Plus (hz.1.mul hw.2).le (hz.2.mul hw.1).le).e] [(1, 12), (2, 12)] 400 Tryz.func100 hmA (by kernel_rfl) (fun β => by kernel_rfl)
def sR4Dot (hz : GSz KE z) (hw : GSz KE w) : Spec Tryz.prog := Spec.auto Tryz.call102 [svG z, svG w] [] (svF (z.re * w.re + z.im * w.im)) []
  [(sR3Times hz.1.le hw.1.le).e, (sR3Times hz.2.le hw.2.le).e, (sR3Plus (hz.1.mul hw.1).le (hz.2.mul hw.2).le).e] [(1, 11)] 400 Tryz.func102 hmA (by kernel_rfl) (fun β => by kernel_rfl)
def sR4Norm (hz : GSz KE z) : Spec Tryz.prog := Spec.auto Tryz.call80 [svG z] [] (svF (gnorm z)) [] [(sR4Dot hz hz).e] [] 400 Tryz.func80 hmA (by kernel_rfl) (fun β => by kernel_rfl)
def sR4Scale (hz : GSz K3 z) (hx : Sz K3 x) : Spec Tryz.prog := Spec.auto Tryz.call95 [svG z, svF x] [] (svG (gscale z x)) [] [(sR3Times hz.1 hx).e, (sR3Times hz.2 hx).e] [(1, 9)] 400 Tryz.func95 hmA (by kernel_rfl) (fun β => by kernel_rfl)
theorem sz_one : Sz 1 (Rat.divInt 1 1) := Sz.small (by decide)
def sR4Over (hz : GSz KE z) (hw : GSz KE w) (h0 : gzero w = false) : Spec Tryz.prog := (Spec.auto Tryz.call97 [svG z, svG w] [] (svG (gscale (gmul z (gconj w)) (Rat.divInt 1 1 / gnorm w))) []
  [(sR4Conj w).e, (sR4Times hz hw.conj).e, (sR3Int 1 (by decide)).e, (sR4Norm hw).e, (sR3Over sz_one.le hw.norm.le (gnorm_ne h0)).e, (sR4Scale (hz.mul hw.conj).le (sz_one.div hw.norm (gnorm_ne h0)).le).e] [(1, 9)] 400 Tryz.func97 hmA (by kernel_rfl) (fun β => by kernel_rfl)).conv (svG (gdiv z w)) (gres (gdiv_eq z w))
end
def sR4Int (n m : Int) (hn : -9223372036854775808 ≤ n ∧ n ≤ 9223372036854775807 := by decide) (hm : -9223372036854775808 ≤ m ∧ m ≤ 9223372036854775807 := by decide) : Spec Tryz.prog :=
  Spec.auto Tryz.call73 [.one (.c (.b (.v (.int .i64 n)))), .one (.c (.b (.v (.int .i64 m))))] [] (svG (gint n m)) [] [(sR3Int n hn).e, (sR3Int m hm).e] [] 400 Tryz.func73 hmA (by kernel_rfl) (fun β => by kernel_rfl)
theorem sign_num (x : Rat) {b : Bool} (h : decide (x = 0) = b) : Value.bool (x.num.sign == 0) = .bool b := sign_lit h
def sR4Zero (z : GQ) {b : Bool} (hb : gzero z = b) : Spec Tryz.prog :=
  ⟨40, Tryz.call40, [svG z], [], .one (.c (.b (.v (.bool b)))), [], fun β w hh => by
    cases h1 : decide (z.re = 0) with
    | false =>
      obtain rfl : b = false := by rw [← hb]; unfold gzero; rw [h1]; rfl
      exact spec_auto (evs := [(sR3Sign (x := z.re) rfl).e, .eqv 6 (.bool (z.re.num.sign == 0)) (.bool false) (sign_num _ h1)]) (Ns := []) (m := 400) Tryz.func40 hmA (fun β => by kernel_rfl) (by kernel_rfl) β w hh
    | true =>
      obtain rfl : b = decide (z.im = 0) := by rw [← hb]; unfold gzero; rw [h1]; rfl
      cases h2 : decide (z.im = 0) with
      | false => exact spec_auto (evs := [(sR3Sign (x := z.re) rfl).e, .eqv 6 (.bool (z.re.num.sign == 0)) (.bool true) (sign_num _ h1), (sR3Sign (x := z.im) rfl).e, .eqv 11 (.bool (z.im.num.sign == 0)) (.bool false) (sign_num _ h2)]) (Ns := []) (m := 400) Tryz.func40 hmA (fun β => by kernel_rfl) (by kernel_rfl) β w hh
      | true => exact spec_auto (evs := [(sR3Sign (x := z.re) rfl).e, .eqv 6 (.bool (z.re.num.sign == 0)) (.bool true) (sign_num _ h1), (sR3Sign (x := z.im) rfl).e, .eqv 11 (.bool (z.im.num.sign == 0)) (.bool true) (sign_num _ h2)]) (Ns := []) (m := 400) Tryz.func40 hmA (fun β => by kernel_rfl) (by kernel_rfl) β w hh, by kernel_rfl⟩
def sR4Fits (z : GQ) {b : Bool} (hb : b = true ↔ FitG z) : Spec Tryz.prog :=
  ⟨220, Tryz.call220, [svG z], [], .one (.c (.b (.v (.bool b)))), [], fun β w hh => by
    by_cases h1 : Fit z.re
    · have h2 : b = true ↔ Fit z.im := hb.trans ⟨fun h => h.2, fun h => ⟨h1, h⟩⟩
      cases b <;> exact spec_auto (evs := [eFFit (iff_true_of h1), eFFit h2]) (Ns := []) (m := 400) Tryz.func220 hmA (fun β => by kernel_rfl) (by kernel_rfl) β w hh
    · obtain rfl := eq_false_of hb fun h => h1 h.1
      exact spec_auto (evs := [eFFit (iff_false_of h1)]) (Ns := []) (m := 400) Tryz.func220 hmA (fun β => by kernel_rfl) (by kernel_rfl) β w hh, by kernel_rfl⟩
/-- May what came in be? -/
def Fp.may3 : Fp → Spec Tryz.prog
  | .ok x h => sR3May _ _ _ _ true (iff_true_of (fitF x h))
  | .no b c s t h hs ht => sR3May b c s t false (iff_false_of h)
def may4E (a b : Fp) : List (Ev Tryz.prog) := match a with
  | .ok .. => [a.may3.e, b.may3.e]
  | .no .. => [a.may3.e]
def sR4May (a b : Fp) : Spec Tryz.prog :=
  Spec.auto Tryz.call39 [.one (.a (a.C ++ b.C))] [] (.one (.c (.b (.v (.bool (a.B && b.B)))))) [] (may4E a b) [] 400 Tryz.func39 hmA (by cases a <;> cases b <;> kernel_rfl) (fun β => by cases a <;> cases b <;> kernel_rfl)
end
/- Points by their cells. -/
section
open Go Go.RowKit
set_option maxRecDepth 100000

def Fp.raw : Fp → R4
  | .ok x _ => ⟨decide (x.num < 0), mag x.num.natAbs, false, mag x.den⟩
  | .no b c s t _ _ _ => ⟨b, s, c, t⟩
def Pp.rI : Pp → Bool
  | .fin .. => false
  | _ => true
def Pp.rX : Pp → R4
  | .inf => r40
  | .fin a _ => a.raw
  | .odd x _ _ => x
def Pp.rY : Pp → R4
  | .inf => r40
  | .fin _ b => b.raw
  | .odd _ y _ => y
def rawC (i : Bool) (x y : R4) : List Lf := .b (.v (.bool i)) :: (x.L ++ y.L)
theorem Pp.C_raw (p : Pp) : p.C = rawC p.rI p.rX p.rY := by rcases p with _ | ⟨_ | _, _ | _⟩ | _ <;> rfl
def Pp.n (p : Pp) : Nat := p.T.length
/-- The same, its arguments and its result told in other words. -/
def Spec.as {P : Program} (S : Spec P) (args : List SV) (res : SV) (ha : S.args = args) (hr : S.res = res) : Spec P :=
  ⟨S.f, S.en, args, S.obs, res, S.news, fun β w hh => by subst ha; subst hr; exact S.ok β w hh, by subst ha; subst hr; exact S.closed⟩
/-- A fraction's cells; a point's. -/
def fR (x : Rat) : R4 := ⟨decide (x.num < 0), mag x.num.natAbs, false, mag x.den⟩
def Pt.i : Pt → Bool
  | .inf => true
  | .fin _ => false
def Pt.x : Pt → R4
  | .inf => r40
  | .fin z => fR z.re
def Pt.y : Pt → R4
  | .inf => r40
  | .fin z => fR z.im
abbrev svR (i : Bool) (x y : R4) : SV := .one (.a (rawC i x y))
abbrev svP (p : Pt) : SV := svR p.i p.x p.y
/-- Of few bytes enough to be answered. -/
def FitP : Pt → Prop
  | .inf => True
  | .fin z => FitG z
theorem FitP.sz {p : Pt} (h : FitP p) : PSz 1024 p := by
  cases p
  · trivial
  · exact ⟨h.1.sz, h.2.sz⟩
/-- As what came in. -/
def ppt : (p : Pt) → FitP p → Pp
  | .inf, _ => .inf
  | .fin z, h => .fin (.ok z.re h.1) (.ok z.im h.2)
theorem ppt_C (p : Pt) (h : FitP p) : (ppt p h).C = rawC p.i p.x p.y := by cases p <;> rfl
theorem ppt_B (p : Pt) (h : FitP p) : (ppt p h).B = true := by cases p <;> rfl
/-- What came in is a point that may be, or none. -/
structure Rw where
  i : Bool
  x : R4
  y : R4
def Rw.ok (r : Rw) : Prop := (r.x.s.size ≤ maxLen ∧ r.x.t.size ≤ maxLen) ∧ r.y.s.size ≤ maxLen ∧ r.y.t.size ≤ maxLen
def Pt.w (p : Pt) : Rw := ⟨p.i, p.x, p.y⟩
def Pp.w (p : Pp) : Rw := ⟨p.rI, p.rX, p.rY⟩
theorem fp_of (x : R4) (h1 : x.s.size ≤ maxLen) (h2 : x.t.size ≤ maxLen) : ∃ a : Fp, a.raw = x := by
  obtain ⟨b, s, c, t⟩ := x
  rcases fp_all b c s t with ⟨q, h, rfl, rfl, rfl, rfl⟩ | h
  · exact ⟨.ok q h, rfl⟩
  · exact ⟨.no b c s t h h1 h2, rfl⟩
theorem pp_of (r : Rw) (h : r.ok) : ∃ p : Pp, p.w = r := by
  obtain ⟨i, x, y⟩ := r
  cases i
  · obtain ⟨a, rfl⟩ := fp_of x h.1.1 h.1.2
    obtain ⟨b, rfl⟩ := fp_of y h.2.1 h.2.2
    exact ⟨.fin a b, rfl⟩
  · by_cases h0 : x = ⟨false, ⟨#[]⟩, false, ⟨#[]⟩⟩ ∧ y = ⟨false, ⟨#[]⟩, false, ⟨#[]⟩⟩
    · obtain ⟨rfl, rfl⟩ := h0
      exact ⟨.inf, rfl⟩
    · exact ⟨.odd x y h0, rfl⟩
theorem Pp.good {p : Pp} (h : p.B = true) : ∃ q : Pt, ∃ hq : FitP q, p = ppt q hq := by
  rcases p with _ | ⟨⟨x, hx⟩ | _, ⟨y, hy⟩ | _⟩ | _
  · exact ⟨.inf, trivial, rfl⟩
  · exact ⟨.fin ⟨x, y⟩, ⟨hx, hy⟩, rfl⟩
  all_goals cases h
theorem ppt_w (p : Pt) (h : FitP p) : (ppt p h).w = p.w := by cases p <;> rfl
theorem fR_inj {x y : Rat} (h : fR x = fR y) : x = y := by
  injection h with h1 h2 h3 h4
  have hn : x.num.natAbs = y.num.natAbs := mag_inj h2
  have hd : x.den = y.den := mag_inj h4
  have hb : (x.num < 0) = (y.num < 0) := by simpa using h1
  refine Rat.ext ?_ hd
  by_cases h0 : x.num < 0
  · have : y.num < 0 := by rw [← hb]; exact h0
    omega
  · have : ¬ y.num < 0 := by rw [← hb]; exact h0
    omega
theorem Pt.w_inj {p q : Pt} (h : p.w = q.w) : p = q := by
  cases p <;> cases q
  · rfl
  · injection h with h1; cases h1
  · injection h with h1; cases h1
  · rename_i z w
    injection h with _ h2 h3
    exact congrArg Pt.fin (GQ.ext2 (fR_inj h2) (fR_inj h3))
/-- Are two points' cells the same? -/
def rwB (i i' : Bool) (x y x' y' : R4) : Bool := (i == i') && ((x.eq x' && (y.eq y' && true)) && true)
theorem rwB_iff {i i' : Bool} {x y x' y' : R4} : rwB i i' x y x' y' = true ↔ i = i' ∧ x = x' ∧ y = y' := by
  unfold rwB
  simp only [Bool.and_true, Bool.and_eq_true, R4.eq_iff, beq_iff_eq]
def ptB (p q : Pt) : Bool := rwB p.i q.i p.x p.y q.x q.y
theorem ptB_iff {p q : Pt} : ptB p q = true ↔ p = q := by
  unfold ptB
  rw [rwB_iff]
  constructor
  · rintro ⟨h1, h2, h3⟩
    exact Pt.w_inj (by unfold Pt.w; rw [h1, h2, h3])
  · rintro rfl; exact ⟨rfl, rfl, rfl⟩
theorem ptB_self (p : Pt) : ptB p p = true := ptB_iff.2 rfl
theorem ptB_ne {p q : Pt} (h : ptB p q = false) : p ≠ q := fun e => by rw [ptB_iff.2 e] at h; cases h
def eqP1 (i i' : Bool) (x y x' y' : R4) (r : Bool) (h : rwB i i' x y x' y' = r) : Ev Tryz.prog := eqEvP i i' x y x' y' r h
def eqP2 {p q : Pt} {r : Bool} (h : ptB p q = r) : Ev Tryz.prog := eqEvP p.i q.i p.x p.y q.x q.y r h
-- what is answered of a point
open Classical in
noncomputable def paI (p : Pt) : Bool := if FitP p then p.i else false
open Classical in
noncomputable def paX (p : Pt) : R4 := if FitP p then p.x else r40
open Classical in
noncomputable def paY (p : Pt) : R4 := if FitP p then p.y else r40
theorem pa_fit {p : Pt} (h : FitP p) : paI p = p.i ∧ paX p = p.x ∧ paY p = p.y := ⟨if_pos h, if_pos h, if_pos h⟩
theorem pa_not {p : Pt} (h : ¬ FitP p) : paI p = false ∧ paX p = r40 ∧ paY p = r40 := ⟨if_neg h, if_neg h, if_neg h⟩
theorem paK_fit {p : Pt} (h : FitP p) : paK p = 0 := by
  cases p
  · rfl
  · exact (ga_fit h).2
theorem paK_not {p : Pt} (h : ¬ FitP p) : paK p = 4 := by
  cases p
  · exact absurd trivial h
  · exact (ga_not h).2
theorem paC_raw (p : Pt) : paC p = rawC (paI p) (paX p) (paY p) := by
  by_cases h : FitP p
  · rw [(pa_fit h).1, (pa_fit h).2.1, (pa_fit h).2.2]
    cases p
    · rfl
    · show _ :: gaC _ = _
      rw [(ga_fit h).1]; rfl
  · rw [(pa_not h).1, (pa_not h).2.1, (pa_not h).2.2]
    cases p
    · exact absurd trivial h
    · show _ :: gaC _ = _
      rw [(ga_not h).1]; rfl
noncomputable abbrev svA (p : Pt) (k : Int) : SV := .tup [.a (rawC (paI p) (paX p) (paY p)), .c (.b (.v (.int .i64 k)))]
/-- A map's cells. -/
def mC (m : MQ) : List Lf := gC m.a ++ gC m.b ++ gC m.c ++ gC m.d ++ [.b (.v (.bool m.t))]
abbrev svM (m : MQ) : SV := .one (.a (mC m))
end
/- Package cross: points taken apart. -/
section
open Go Go.RowKit
set_option maxRecDepth 100000

def openE : List Pp → List (Ev Tryz.prog)
  | [] => []
  | p :: r => (sSpot p).e :: (bif p.B then (sPMay p).e :: openE r else [])
def zP : List Lf := [.b (.v (.bool false)), nilL, nilL]
def openB (p q r s : Pp) : Bool := p.B && (q.B && (r.B && s.B))
def openA (p q r s : Pp) : List Lf := bif openB p q r s then p.A 0 ++ q.A p.n ++ r.A (p.n + q.n) ++ s.A (p.n + q.n + r.n) else zP ++ zP ++ zP ++ zP
def openT (p q r s : Pp) : List Thing := bif openB p q r s then p.T ++ q.T ++ r.T ++ s.T else []
def openK (p q r s : Pp) : Int := bif openB p q r s then 0 else 2

noncomputable def openF (p q r s : Pp) (β : Env) : List Tm := (specA Tryz.prog Tryz.f156 [.one (.a (rawC p.rI p.rX p.rY ++ rawC q.rI q.rX q.rY ++ rawC r.rI r.rX r.rY ++ rawC s.rI s.rX s.rY))] [] (openE [p, q, r, s]) [] 1200 (.tup [.a (openA p q r s), .c (.b (.v (.int .i64 (openK p q r s))))]) (openT p q r s) β).map Prod.fst
noncomputable def openG (p q r s : Pp) (β : Env) : List Tm := (specA Tryz.prog Tryz.f156 [.one (.a (rawC p.rI p.rX p.rY ++ rawC q.rI q.rX q.rY ++ rawC r.rI r.rX r.rY ++ rawC s.rI s.rX s.rY))] [] (openE [p, q, r, s]) [] 1200 (.tup [.a (openA p q r s), .c (.b (.v (.int .i64 (openK p q r s))))]) (openT p q r s) β).map Prod.snd
noncomputable def openH (p q r s : Pp) : Bool := specB2 [.one (.a (rawC p.rI p.rX p.rY ++ rawC q.rI q.rX q.rY ++ rawC r.rI r.rX r.rY ++ rawC s.rI s.rX s.rY))] [] (.tup [.a (openA p q r s), .c (.b (.v (.int .i64 (openK p q r s))))]) (openT p q r s)
theorem openW0  (β : Env) : openF (.inf) (.inf) (.inf) (.inf) β = openG (.inf) (.inf) (.inf) (.inf) β := by kernel_rfl
theorem openV0  : openH (.inf) (.inf) (.inf) (.inf) = true := by kernel_rfl
theorem openW1 (sx sy : Rat) (sh : Fit sx) (sk : Fit sy) (β : Env) : openF (.inf) (.inf) (.inf) (.fin (.ok sx sh) (.ok sy sk)) β = openG (.inf) (.inf) (.inf) (.fin (.ok sx sh) (.ok sy sk)) β := by kernel_rfl
theorem openV1 (sx sy : Rat) (sh : Fit sx) (sk : Fit sy) : openH (.inf) (.inf) (.inf) (.fin (.ok sx sh) (.ok sy sk)) = true := by kernel_rfl
theorem openW2 (sx : Rat) (sh : Fit sx) (sb sc : Bool) (ss st : ByteArray) (sn : ¬ IsFrac (rawV sb sc ss st)) (si : (ss).size ≤ maxLen) (sj : (st).size ≤ maxLen) (β : Env) : openF (.inf) (.inf) (.inf) (.fin (.ok sx sh) (.no sb sc ss st sn si sj)) β = openG (.inf) (.inf) (.inf) (.fin (.ok sx sh) (.no sb sc ss st sn si sj)) β := by kernel_rfl
theorem openV2 (sx : Rat) (sh : Fit sx) (sb sc : Bool) (ss st : ByteArray) (sn : ¬ IsFrac (rawV sb sc ss st)) (si : (ss).size ≤ maxLen) (sj : (st).size ≤ maxLen) : openH (.inf) (.inf) (.inf) (.fin (.ok sx sh) (.no sb sc ss st sn si sj)) = true := by kernel_rfl
theorem openW3 (sx : Rat) (sh : Fit sx) (sb sc : Bool) (ss st : ByteArray) (sn : ¬ IsFrac (rawV sb sc ss st)) (si : (ss).size ≤ maxLen) (sj : (st).size ≤ maxLen) (β : Env) : openF (.inf) (.inf) (.inf) (.fin (.no sb sc ss st sn si sj) (.ok sx sh)) β = openG (.inf) (.inf) (.inf) (.fin (.no sb sc ss st sn si sj) (.ok sx sh)) β := by kernel_rfl
theorem openV3 (sx : Rat) (sh : Fit sx) (sb sc : Bool) (ss st : ByteArray) (sn : ¬ IsFrac (rawV sb sc ss st)) (si : (ss).size ≤ maxLen) (sj : (st).size ≤ maxLen) : openH (.inf) (.inf) (.inf) (.fin (.no sb sc ss st sn si sj) (.ok sx sh)) = true := by kernel_rfl
theorem openW4 (sb sc : Bool) (ss st : ByteArray) (sn : ¬ IsFrac (rawV sb sc ss st)) (si : (ss).size ≤ maxLen) (sj : (st).size ≤ maxLen) (sb2 sc2 : Bool) (ss2 st2 : ByteArray) (sn2 : ¬ IsFrac (rawV sb2 sc2 ss2 st2)) (si2 : (ss2).size ≤ maxLen) (sj2 : (st2).size ≤ maxLen) (β : Env) : openF (.inf) (.inf) (.inf) (.fin (.no sb sc ss st sn si sj) (.no sb2 sc2 ss2 st2 sn2 si2 sj2)) β = openG (.inf) (.inf) (.inf) (.fin (.no sb sc ss st sn si sj) (.no sb2 sc2 ss2 st2 sn2 si2 sj2)) β := by kernel_rfl
theorem openV4 (sb sc : Bool) (ss st : ByteArray) (sn : ¬ IsFrac (rawV sb sc ss st)) (si : (ss).size ≤ maxLen) (sj : (st).size ≤ maxLen) (sb2 sc2 : Bool) (ss2 st2 : ByteArray) (sn2 : ¬ IsFrac (rawV sb2 sc2 ss2 st2)) (si2 : (ss2).size ≤ maxLen) (sj2 : (st2).size ≤ maxLen) : openH (.inf) (.inf) (.inf) (.fin (.no sb sc ss st sn si sj) (.no sb2 sc2 ss2 st2 sn2 si2 sj2)) = true := by kernel_rfl
theorem openW5 (su sw : R4) (so) (β : Env) : openF (.inf) (.inf) (.inf) (.odd su sw so) β = openG (.inf) (.inf) (.inf) (.odd su sw so) β := by kernel_rfl
theorem openV5 (su sw : R4) (so) : openH (.inf) (.inf) (.inf) (.odd su sw so) = true := by kernel_rfl
theorem openW6 (rx ry : Rat) (rh : Fit rx) (rk : Fit ry) (β : Env) : openF (.inf) (.inf) (.fin (.ok rx rh) (.ok ry rk)) (.inf) β = openG (.inf) (.inf) (.fin (.ok rx rh) (.ok ry rk)) (.inf) β := by kernel_rfl
theorem openV6 (rx ry : Rat) (rh : Fit rx) (rk : Fit ry) : openH (.inf) (.inf) (.fin (.ok rx rh) (.ok ry rk)) (.inf) = true := by kernel_rfl
theorem openW7 (rx ry : Rat) (rh : Fit rx) (rk : Fit ry) (sx sy : Rat) (sh : Fit sx) (sk : Fit sy) (β : Env) : openF (.inf) (.inf) (.fin (.ok rx rh) (.ok ry rk)) (.fin (.ok sx sh) (.ok sy sk)) β = openG (.inf) (.inf) (.fin (.ok rx rh) (.ok ry rk)) (.fin (.ok sx sh) (.ok sy sk)) β := by kernel_rfl
theorem openV7 (rx ry : Rat) (rh : Fit rx) (rk : Fit ry) (sx sy : Rat) (sh : Fit sx) (sk : Fit sy) : openH (.inf) (.inf) (.fin (.ok rx rh) (.ok ry rk)) (.fin (.ok sx sh) (.ok sy sk)) = true := by kernel_rfl
theorem openW8 (rx ry : Rat) (rh : Fit rx) (rk : Fit ry) (sx : Rat) (sh : Fit sx) (sb sc : Bool) (ss st : ByteArray) (sn : ¬ IsFrac (rawV sb sc ss st)) (si : (ss).size ≤ maxLen) (sj : (st).size ≤ maxLen) (β : Env) : openF (.inf) (.inf) (.fin (.ok rx rh) (.ok ry rk)) (.fin (.ok sx sh) (.no sb sc ss st sn si sj)) β = openG (.inf) (.inf) (.fin (.ok rx rh) (.ok ry rk)) (.fin (.ok sx sh) (.no sb sc ss st sn si sj)) β := by kernel_rfl
theorem openV8 (rx ry : Rat) (rh : Fit rx) (rk : Fit ry) (sx : Rat) (sh : Fit sx) (sb sc : Bool) (ss st : ByteArray) (sn : ¬ IsFrac (rawV sb sc ss st)) (si : (ss).size ≤ maxLen) (sj : (st).size ≤ maxLen) : openH (.inf) (.inf) (.fin (.ok rx rh) (.ok ry rk)) (.fin (.ok sx sh) (.no sb sc ss st sn si sj)) = true := by kernel_rfl
theorem openW9 (rx ry : Rat) (rh : Fit rx) (rk : Fit ry) (sx : Rat) (sh : Fit sx) (sb sc : Bool) (ss st : ByteArray) (sn : ¬ IsFrac (rawV sb sc ss st)) (si : (ss).size ≤ maxLen) (sj : (st).size ≤ maxLen) (β : Env) : openF (.inf) (.inf) (.fin (.ok rx rh) (.ok ry rk)) (.fin (.no sb sc ss st sn si sj) (.ok sx sh)) β = openG (.inf) (.inf) (.fin (.ok rx rh) (.ok ry rk)) (.fin (.no sb sc ss st sn si sj) (.ok sx sh)) β := by kernel_rfl
theorem openV9 (rx ry : Rat) (rh : Fit rx) (rk : Fit ry) (sx : Rat) (sh : Fit sx) (sb sc : Bool) (ss st : ByteArray) (sn : ¬ IsFrac (rawV sb sc ss st)) (si : (ss).size ≤ maxLen) (sj : (st).size ≤ maxLen) : openH (.inf) (.inf) (.fin (.ok rx rh) (.ok ry rk)) (.fin (.no sb sc ss st sn si sj) (.ok sx sh)) = true := by kernel_rfl
theorem openW10 (rx ry : Rat) (rh : Fit rx) (rk : Fit ry) (sb sc : Bool) (ss st : ByteArray) (sn : ¬ IsFrac (rawV sb sc ss st)) (si : (ss).size ≤ maxLen) (sj : (st).size ≤ maxLen) (sb2 sc2 : Bool) (ss2 st2 : ByteArray) (sn2 : ¬ IsFrac (rawV sb2 sc2 ss2 st2)) (si2 : (ss2).size ≤ maxLen) (sj2 : (st2).size ≤ maxLen) (β : Env) : openF (.inf) (.inf) (.fin (.ok rx rh) (.ok ry rk)) (.fin (.no sb sc ss st sn si sj) (.no sb2 sc2 ss2 st2 sn2 si2 sj2)) β = openG (.inf) (.inf) (.fin (.ok rx rh) (.ok ry rk)) (.fin (.no sb sc ss st sn si sj) (.no sb2 sc2 ss2 st2 sn2 si2 sj2)) β := by kernel_rfl
theorem openV10 (rx ry : Rat) (rh : Fit rx) (rk : Fit ry) (sb sc : Bool) (ss st : ByteArray) (sn : ¬ IsFrac (rawV sb sc ss st)) (si : (ss).size ≤ maxLen) (sj : (st).size ≤ maxLen) (sb2 sc2 : Bool) (ss2 st2 : ByteArray) (sn2 : ¬ IsFrac (rawV sb2 sc2 ss2 st2)) (si2 : (ss2).size ≤ maxLen) (sj2 : (st2).size ≤ maxLen) : openH (.inf) (.inf) (.fin (.ok rx rh) (.ok ry rk)) (.fin (.no sb sc ss st sn si sj) (.no sb2 sc2 ss2 st2 sn2 si2 sj2)) = true := by kernel_rfl
theorem openW11 (rx ry : Rat) (rh : Fit rx) (rk : Fit ry) (su sw : R4) (so) (β : Env) : openF (.inf) (.inf) (.fin (.ok rx rh) (.ok ry rk)) (.odd su sw so) β = openG (.inf) (.inf) (.fin (.ok rx rh) (.ok ry rk)) (.odd su sw so) β := by kernel_rfl
theorem openV11 (rx ry : Rat) (rh : Fit rx) (rk : Fit ry) (su sw : R4) (so) : openH (.inf) (.inf) (.fin (.ok rx rh) (.ok ry rk)) (.odd su sw so) = true := by kernel_rfl
theorem openW12 (rx : Rat) (rh : Fit rx) (rb rc : Bool) (rs rt : ByteArray) (rn : ¬ IsFrac (rawV rb rc rs rt)) (ri : (rs).size ≤ maxLen) (rj : (rt).size ≤ maxLen) (s : Pp) (β : Env) : openF (.inf) (.inf) (.fin (.ok rx rh) (.no rb rc rs rt rn ri rj)) s β = openG (.inf) (.inf) (.fin (.ok rx rh) (.no rb rc rs rt rn ri rj)) s β := by kernel_rfl
theorem openV12 (rx : Rat) (rh : Fit rx) (rb rc : Bool) (rs rt : ByteArray) (rn : ¬ IsFrac (rawV rb rc rs rt)) (ri : (rs).size ≤ maxLen) (rj : (rt).size ≤ maxLen) (s : Pp) : openH (.inf) (.inf) (.fin (.ok rx rh) (.no rb rc rs rt rn ri rj)) s = true := by kernel_rfl
theorem openW13 (rx : Rat) (rh : Fit rx) (rb rc : Bool) (rs rt : ByteArray) (rn : ¬ IsFrac (rawV rb rc rs rt)) (ri : (rs).size ≤ maxLen) (rj : (rt).size ≤ maxLen) (s : Pp) (β : Env) : openF (.inf) (.inf) (.fin (.no rb rc rs rt rn ri rj) (.ok rx rh)) s β = openG (.inf) (.inf) (.fin (.no rb rc rs rt rn ri rj) (.ok rx rh)) s β := by kernel_rfl
theorem openV13 (rx : Rat) (rh : Fit rx) (rb rc : Bool) (rs rt : ByteArray) (rn : ¬ IsFrac (rawV rb rc rs rt)) (ri : (rs).size ≤ maxLen) (rj : (rt).size ≤ maxLen) (s : Pp) : openH (.inf) (.inf) (.fin (.no rb rc rs rt rn ri rj) (.ok rx rh)) s = true := by kernel_rfl
theorem openW14 (rb rc : Bool) (rs rt : ByteArray) (rn : ¬ IsFrac (rawV rb rc rs rt)) (ri : (rs).size ≤ maxLen) (rj : (rt).size ≤ maxLen) (rb2 rc2 : Bool) (rs2 rt2 : ByteArray) (rn2 : ¬ IsFrac (rawV rb2 rc2 rs2 rt2)) (ri2 : (rs2).size ≤ maxLen) (rj2 : (rt2).size ≤ maxLen) (s : Pp) (β : Env) : openF (.inf) (.inf) (.fin (.no rb rc rs rt rn ri rj) (.no rb2 rc2 rs2 rt2 rn2 ri2 rj2)) s β = openG (.inf) (.inf) (.fin (.no rb rc rs rt rn ri rj) (.no rb2 rc2 rs2 rt2 rn2 ri2 rj2)) s β := by kernel_rfl
theorem openV14 (rb rc : Bool) (rs rt : ByteArray) (rn : ¬ IsFrac (rawV rb rc rs rt)) (ri : (rs).size ≤ maxLen) (rj : (rt).size ≤ maxLen) (rb2 rc2 : Bool) (rs2 rt2 : ByteArray) (rn2 : ¬ IsFrac (rawV rb2 rc2 rs2 rt2)) (ri2 : (rs2).size ≤ maxLen) (rj2 : (rt2).size ≤ maxLen) (s : Pp) : openH (.inf) (.inf) (.fin (.no rb rc rs rt rn ri rj) (.no rb2 rc2 rs2 rt2 rn2 ri2 rj2)) s = true := by kernel_rfl
theorem openW15 (ru rw : R4) (ro) (s : Pp) (β : Env) : openF (.inf) (.inf) (.odd ru rw ro) s β = openG (.inf) (.inf) (.odd ru rw ro) s β := by kernel_rfl
theorem openV15 (ru rw : R4) (ro) (s : Pp) : openH (.inf) (.inf) (.odd ru rw ro) s = true := by kernel_rfl
theorem openW16 (qx qy : Rat) (qh : Fit qx) (qk : Fit qy) (β : Env) : openF (.inf) (.fin (.ok qx qh) (.ok qy qk)) (.inf) (.inf) β = openG (.inf) (.fin (.ok qx qh) (.ok qy qk)) (.inf) (.inf) β := by kernel_rfl
theorem openV16 (qx qy : Rat) (qh : Fit qx) (qk : Fit qy) : openH (.inf) (.fin (.ok qx qh) (.ok qy qk)) (.inf) (.inf) = true := by kernel_rfl
theorem openW17 (qx qy : Rat) (qh : Fit qx) (qk : Fit qy) (sx sy : Rat) (sh : Fit sx) (sk : Fit sy) (β : Env) : openF (.inf) (.fin (.ok qx qh) (.ok qy qk)) (.inf) (.fin (.ok sx sh) (.ok sy sk)) β = openG (.inf) (.fin (.ok qx qh) (.ok qy qk)) (.inf) (.fin (.ok sx sh) (.ok sy sk)) β := by kernel_rfl
theorem openV17 (qx qy : Rat) (qh : Fit qx) (qk : Fit qy) (sx sy : Rat) (sh : Fit sx) (sk : Fit sy) : openH (.inf) (.fin (.ok qx qh) (.ok qy qk)) (.inf) (.fin (.ok sx sh) (.ok sy sk)) = true := by kernel_rfl
theorem openW18 (qx qy : Rat) (qh : Fit qx) (qk : Fit qy) (sx : Rat) (sh : Fit sx) (sb sc : Bool) (ss st : ByteArray) (sn : ¬ IsFrac (rawV sb sc ss st)) (si : (ss).size ≤ maxLen) (sj : (st).size ≤ maxLen) (β : Env) : openF (.inf) (.fin (.ok qx qh) (.ok qy qk)) (.inf) (.fin (.ok sx sh) (.no sb sc ss st sn si sj)) β = openG (.inf) (.fin (.ok qx qh) (.ok qy qk)) (.inf) (.fin (.ok sx sh) (.no sb sc ss st sn si sj)) β := by kernel_rfl
theorem openV18 (qx qy : Rat) (qh : Fit qx) (qk : Fit qy) (sx : Rat) (sh : Fit sx) (sb sc : Bool) (ss st : ByteArray) (sn : ¬ IsFrac (rawV sb sc ss st)) (si : (ss).size ≤ maxLen) (sj : (st).size ≤ maxLen) : openH (.inf) (.fin (.ok qx qh) (.ok qy qk)) (.inf) (.fin (.ok sx sh) (.no sb sc ss st sn si sj)) = true := by kernel_rfl
theorem openW19 (qx qy : Rat) (qh : Fit qx) (qk : Fit qy) (sx : Rat) (sh : Fit sx) (sb sc : Bool) (ss st : ByteArray) (sn : ¬ IsFrac (rawV sb sc ss st)) (si : (ss).size ≤ maxLen) (sj : (st).size ≤ maxLen) (β : Env) : openF (.inf) (.fin (.ok qx qh) (.ok qy qk)) (.inf) (.fin (.no sb sc ss st sn si sj) (.ok sx sh)) β = openG (.inf) (.fin (.ok qx qh) (.ok qy qk)) (.inf) (.fin (.no sb sc ss st sn si sj) (.ok sx sh)) β := by kernel_rfl
theorem openV19 (qx qy : Rat) (qh : Fit qx) (qk : Fit qy) (sx : Rat) (sh : Fit sx) (sb sc : Bool) (ss st : ByteArray) (sn : ¬ IsFrac (rawV sb sc ss st)) (si : (ss).size ≤ maxLen) (sj : (st).size ≤ maxLen) : openH (.inf) (.fin (.ok qx qh) (.ok qy qk)) (.inf) (.fin (.no sb sc ss st sn si sj) (.ok sx sh)) = true := by kernel_rfl
theorem openW20 (qx qy : Rat) (qh : Fit qx) (qk : Fit qy) (sb sc : Bool) (ss st : ByteArray) (sn : ¬ IsFrac (rawV sb sc ss st)) (si : (ss).size ≤ maxLen) (sj : (st).size ≤ maxLen) (sb2 sc2 : Bool) (ss2 st2 : ByteArray) (sn2 : ¬ IsFrac (rawV sb2 sc2 ss2 st2)) (si2 : (ss2).size ≤ maxLen) (sj2 : (st2).size ≤ maxLen) (β : Env) : openF (.inf) (.fin (.ok qx qh) (.ok qy qk)) (.inf) (.fin (.no sb sc ss st sn si sj) (.no sb2 sc2 ss2 st2 sn2 si2 sj2)) β = openG (.inf) (.fin (.ok qx qh) (.ok qy qk)) (.inf) (.fin (.no sb sc ss st sn si sj) (.no sb2 sc2 ss2 st2 sn2 si2 sj2)) β := by kernel_rfl
theorem openV20 (qx qy : Rat) (qh : Fit qx) (qk : Fit qy) (sb sc : Bool) (ss st : ByteArray) (sn : ¬ IsFrac (rawV sb sc ss st)) (si : (ss).size ≤ maxLen) (sj : (st).size ≤ maxLen) (sb2 sc2 : Bool) (ss2 st2 : ByteArray) (sn2 : ¬ IsFrac (rawV sb2 sc2 ss2 st2)) (si2 : (ss2).size ≤ maxLen) (sj2 : (st2).size ≤ maxLen) : openH (.inf) (.fin (.ok qx qh) (.ok qy qk)) (.inf) (.fin (.no sb sc ss st sn si sj) (.no sb2 sc2 ss2 st2 sn2 si2 sj2)) = true := by kernel_rfl
theorem openW21 (qx qy : Rat) (qh : Fit qx) (qk : Fit qy) (su sw : R4) (so) (β : Env) : openF (.inf) (.fin (.ok qx qh) (.ok qy qk)) (.inf) (.odd su sw so) β = openG (.inf) (.fin (.ok qx qh) (.ok qy qk)) (.inf) (.odd su sw so) β := by kernel_rfl
theorem openV21 (qx qy : Rat) (qh : Fit qx) (qk : Fit qy) (su sw : R4) (so) : openH (.inf) (.fin (.ok qx qh) (.ok qy qk)) (.inf) (.odd su sw so) = true := by kernel_rfl
theorem openW22 (qx qy : Rat) (qh : Fit qx) (qk : Fit qy) (rx ry : Rat) (rh : Fit rx) (rk : Fit ry) (β : Env) : openF (.inf) (.fin (.ok qx qh) (.ok qy qk)) (.fin (.ok rx rh) (.ok ry rk)) (.inf) β = openG (.inf) (.fin (.ok qx qh) (.ok qy qk)) (.fin (.ok rx rh) (.ok ry rk)) (.inf) β := by kernel_rfl
theorem openV22 (qx qy : Rat) (qh : Fit qx) (qk : Fit qy) (rx ry : Rat) (rh : Fit rx) (rk : Fit ry) : openH (.inf) (.fin (.ok qx qh) (.ok qy qk)) (.fin (.ok rx rh) (.ok ry rk)) (.inf) = true := by kernel_rfl
theorem openW23 (qx qy : Rat) (qh : Fit qx) (qk : Fit qy) (rx ry : Rat) (rh : Fit rx) (rk : Fit ry) (sx sy : Rat) (sh : Fit sx) (sk : Fit sy) (β : Env) : openF (.inf) (.fin (.ok qx qh) (.ok qy qk)) (.fin (.ok rx rh) (.ok ry rk)) (.fin (.ok sx sh) (.ok sy sk)) β = openG (.inf) (.fin (.ok qx qh) (.ok qy qk)) (.fin (.ok rx rh) (.ok ry rk)) (.fin (.ok sx sh) (.ok sy sk)) β := by kernel_rfl
theorem openV23 (qx qy : Rat) (qh : Fit qx) (qk : Fit qy) (rx ry : Rat) (rh : Fit rx) (rk : Fit ry) (sx sy : Rat) (sh : Fit sx) (sk : Fit sy) : openH (.inf) (.fin (.ok qx qh) (.ok qy qk)) (.fin (.ok rx rh) (.ok ry rk)) (.fin (.ok sx sh) (.ok sy sk)) = true := by kernel_rfl
theorem openW24 (qx qy : Rat) (qh : Fit qx) (qk : Fit qy) (rx ry : Rat) (rh : Fit rx) (rk : Fit ry) (sx : Rat) (sh : Fit sx) (sb sc : Bool) (ss st : ByteArray) (sn : ¬ IsFrac (rawV sb sc ss st)) (si : (ss).size ≤ maxLen) (sj : (st).size ≤ maxLen) (β : Env) : openF (.inf) (.fin (.ok qx qh) (.ok qy qk)) (.fin (.ok rx rh) (.ok ry rk)) (.fin (.ok sx sh) (.no sb sc ss st sn si sj)) β = openG (.inf) (.fin (.ok qx qh) (.ok qy qk)) (.fin (.ok rx rh) (.ok ry rk)) (.fin (.ok sx sh) (.no sb sc ss st sn si sj)) β := by kernel_rfl
theorem openV24 (qx qy : Rat) (qh : Fit qx) (qk : Fit qy) (rx ry : Rat) (rh : Fit rx) (rk : Fit ry) (sx : Rat) (sh : Fit sx) (sb sc : Bool) (ss st : ByteArray) (sn : ¬ IsFrac (rawV sb sc ss st)) (si : (ss).size ≤ maxLen) (sj : (st).size ≤ maxLen) : openH (.inf) (.fin (.ok qx qh) (.ok qy qk)) (.fin (.ok rx rh) (.ok ry rk)) (.fin (.ok sx sh) (.no sb sc ss st sn si sj)) = true := by kernel_rfl
theorem openW25 (qx qy : Rat) (qh : Fit qx) (qk : Fit qy) (rx ry : Rat) (rh : Fit rx) (rk : Fit ry) (sx : Rat) (sh : Fit sx) (sb sc : Bool) (ss st : ByteArray) (sn : ¬ IsFrac (rawV sb sc ss st)) (si : (ss).size ≤ maxLen) (sj : (st).size ≤ maxLen) (β : Env) : openF (.inf) (.fin (.ok qx qh) (.ok qy qk)) (.fin (.ok rx rh) (.ok ry rk)) (.fin (.no sb sc ss st sn si sj) (.ok sx sh)) β = openG (.inf) (.fin (.ok qx qh) (.ok qy qk)) (.fin (.ok rx rh) (.ok ry rk)) (.fin (.no sb sc ss st sn si sj) (.ok sx sh)) β := by kernel_rfl
theorem openV25 (qx qy : Rat) (qh : Fit qx) (qk : Fit qy) (rx ry : Rat) (rh : Fit rx) (rk : Fit ry) (sx : Rat) (sh : Fit sx) (sb sc : Bool) (ss st : ByteArray) (sn : ¬ IsFrac (rawV sb sc ss st)) (si : (ss).size ≤ maxLen) (sj : (st).size ≤ maxLen) : openH (.inf) (.fin (.ok qx qh) (.ok qy qk)) (.fin (.ok rx rh) (.ok ry rk)) (.fin (.no sb sc ss st sn si sj) (.ok sx sh)) = true := by kernel_rfl
theorem openW26 (qx qy : Rat) (qh : Fit qx) (qk : Fit qy) (rx ry : Rat) (rh : Fit rx) (rk : Fit ry) (sb sc : Bool) (ss st : ByteArray) (sn : ¬ IsFrac (rawV sb sc ss st)) (si : (ss).size ≤ maxLen) (sj : (st).size ≤ maxLen) (sb2 sc2 : Bool) (ss2 st2 : ByteArray) (sn2 : ¬ IsFrac (rawV sb2 sc2 ss2 st2)) (si2 : (ss2).size ≤ maxLen) (sj2 : (st2).size ≤ maxLen) (β : Env) : openF (.inf) (.fin (.ok qx qh) (.ok qy qk)) (.fin (.ok rx rh) (.ok ry rk)) (.fin (.no sb sc ss st sn si sj) (.no sb2 sc2 ss2 st2 sn2 si2 sj2)) β = openG (.inf) (.fin (.ok qx qh) (.ok qy qk)) (.fin (.ok rx rh) (.ok ry rk)) (.fin (.no sb sc ss st sn si sj) (.no sb2 sc2 ss2 st2 sn2 si2 sj2)) β := by kernel_rfl
theorem openV26 (qx qy : Rat) (qh : Fit qx) (qk : Fit qy) (rx ry : Rat) (rh : Fit rx) (rk : Fit ry) (sb sc : Bool) (ss st : ByteArray) (sn : ¬ IsFrac (rawV sb sc ss st)) (si : (ss).size ≤ maxLen) (sj : (st).size ≤ maxLen) (sb2 sc2 : Bool) (ss2 st2 : ByteArray) (sn2 : ¬ IsFrac (rawV sb2 sc2 ss2 st2)) (si2 : (ss2).size ≤ maxLen) (sj2 : (st2).size ≤ maxLen) : openH (.inf) (.fin (.ok qx qh) (.ok qy qk)) (.fin (.ok rx rh) (.ok ry rk)) (.fin (.no sb sc ss st sn si sj) (.no sb2 sc2 ss2 st2 sn2 si2 sj2)) = true := by kernel_rfl
theorem openW27 (qx qy : Rat) (qh : Fit qx) (qk : Fit qy) (rx ry : Rat) (rh : Fit rx) (rk : Fit ry) (su sw : R4) (so) (β : Env) : openF (.inf) (.fin (.ok qx qh) (.ok qy qk)) (.fin (.ok rx rh) (.ok ry rk)) (.odd su sw so) β = openG (.inf) (.fin (.ok qx qh) (.ok qy qk)) (.fin (.ok rx rh) (.ok ry rk)) (.odd su sw so) β := by kernel_rfl
theorem openV27 (qx qy : Rat) (qh : Fit qx) (qk : Fit qy) (rx ry : Rat) (rh : Fit rx) (rk : Fit ry) (su sw : R4) (so) : openH (.inf) (.fin (.ok qx qh) (.ok qy qk)) (.fin (.ok rx rh) (.ok ry rk)) (.odd su sw so) = true := by kernel_rfl
theorem openW28 (qx qy : Rat) (qh : Fit qx) (qk : Fit qy) (rx : Rat) (rh : Fit rx) (rb rc : Bool) (rs rt : ByteArray) (rn : ¬ IsFrac (rawV rb rc rs rt)) (ri : (rs).size ≤ maxLen) (rj : (rt).size ≤ maxLen) (s : Pp) (β : Env) : openF (.inf) (.fin (.ok qx qh) (.ok qy qk)) (.fin (.ok rx rh) (.no rb rc rs rt rn ri rj)) s β = openG (.inf) (.fin (.ok qx qh) (.ok qy qk)) (.fin (.ok rx rh) (.no rb rc rs rt rn ri rj)) s β := by kernel_rfl
theorem openV28 (qx qy : Rat) (qh : Fit qx) (qk : Fit qy) (rx : Rat) (rh : Fit rx) (rb rc : Bool) (rs rt : ByteArray) (rn : ¬ IsFrac (rawV rb rc rs rt)) (ri : (rs).size ≤ maxLen) (rj : (rt).size ≤ maxLen) (s : Pp) : openH (.inf) (.fin (.ok qx qh) (.ok qy qk)) (.fin (.ok rx rh) (.no rb rc rs rt rn ri rj)) s = true := by kernel_rfl
theorem openW29 (qx qy : Rat) (qh : Fit qx) (qk : Fit qy) (rx : Rat) (rh : Fit rx) (rb rc : Bool) (rs rt : ByteArray) (rn : ¬ IsFrac (rawV rb rc rs rt)) (ri : (rs).size ≤ maxLen) (rj : (rt).size ≤ maxLen) (s : Pp) (β : Env) : openF (.inf) (.fin (.ok qx qh) (.ok qy qk)) (.fin (.no rb rc rs rt rn ri rj) (.ok rx rh)) s β = openG (.inf) (.fin (.ok qx qh) (.ok qy qk)) (.fin (.no rb rc rs rt rn ri rj) (.ok rx rh)) s β := by kernel_rfl
theorem openV29 (qx qy : Rat) (qh : Fit qx) (qk : Fit qy) (rx : Rat) (rh : Fit rx) (rb rc : Bool) (rs rt : ByteArray) (rn : ¬ IsFrac (rawV rb rc rs rt)) (ri : (rs).size ≤ maxLen) (rj : (rt).size ≤ maxLen) (s : Pp) : openH (.inf) (.fin (.ok qx qh) (.ok qy qk)) (.fin (.no rb rc rs rt rn ri rj) (.ok rx rh)) s = true := by kernel_rfl
theorem openW30 (qx qy : Rat) (qh : Fit qx) (qk : Fit qy) (rb rc : Bool) (rs rt : ByteArray) (rn : ¬ IsFrac (rawV rb rc rs rt)) (ri : (rs).size ≤ maxLen) (rj : (rt).size ≤ maxLen) (rb2 rc2 : Bool) (rs2 rt2 : ByteArray) (rn2 : ¬ IsFrac (rawV rb2 rc2 rs2 rt2)) (ri2 : (rs2).size ≤ maxLen) (rj2 : (rt2).size ≤ maxLen) (s : Pp) (β : Env) : openF (.inf) (.fin (.ok qx qh) (.ok qy qk)) (.fin (.no rb rc rs rt rn ri rj) (.no rb2 rc2 rs2 rt2 rn2 ri2 rj2)) s β = openG (.inf) (.fin (.ok qx qh) (.ok qy qk)) (.fin (.no rb rc rs rt rn ri rj) (.no rb2 rc2 rs2 rt2 rn2 ri2 rj2)) s β := by kernel_rfl
theorem openV30 (qx qy : Rat) (qh : Fit qx) (qk : Fit qy) (rb rc : Bool) (rs rt : ByteArray) (rn : ¬ IsFrac (rawV rb rc rs rt)) (ri : (rs).size ≤ maxLen) (rj : (rt).size ≤ maxLen) (rb2 rc2 : Bool) (rs2 rt2 : ByteArray) (rn2 : ¬ IsFrac (rawV rb2 rc2 rs2 rt2)) (ri2 : (rs2).size ≤ maxLen) (rj2 : (rt2).size ≤ maxLen) (s : Pp) : openH (.inf) (.fin (.ok qx qh) (.ok qy qk)) (.fin (.no rb rc rs rt rn ri rj) (.no rb2 rc2 rs2 rt2 rn2 ri2 rj2)) s = true := by kernel_rfl
theorem openW31 (qx qy : Rat) (qh : Fit qx) (qk : Fit qy) (ru rw : R4) (ro) (s : Pp) (β : Env) : openF (.inf) (.fin (.ok qx qh) (.ok qy qk)) (.odd ru rw ro) s β = openG (.inf) (.fin (.ok qx qh) (.ok qy qk)) (.odd ru rw ro) s β := by kernel_rfl
theorem openV31 (qx qy : Rat) (qh : Fit qx) (qk : Fit qy) (ru rw : R4) (ro) (s : Pp) : openH (.inf) (.fin (.ok qx qh) (.ok qy qk)) (.odd ru rw ro) s = true := by kernel_rfl
theorem openW32 (qx : Rat) (qh : Fit qx) (qb qc : Bool) (qs qt : ByteArray) (qn : ¬ IsFrac (rawV qb qc qs qt)) (qi : (qs).size ≤ maxLen) (qj : (qt).size ≤ maxLen) (r s : Pp) (β : Env) : openF (.inf) (.fin (.ok qx qh) (.no qb qc qs qt qn qi qj)) r s β = openG (.inf) (.fin (.ok qx qh) (.no qb qc qs qt qn qi qj)) r s β := by kernel_rfl
theorem openV32 (qx : Rat) (qh : Fit qx) (qb qc : Bool) (qs qt : ByteArray) (qn : ¬ IsFrac (rawV qb qc qs qt)) (qi : (qs).size ≤ maxLen) (qj : (qt).size ≤ maxLen) (r s : Pp) : openH (.inf) (.fin (.ok qx qh) (.no qb qc qs qt qn qi qj)) r s = true := by kernel_rfl
theorem openW33 (qx : Rat) (qh : Fit qx) (qb qc : Bool) (qs qt : ByteArray) (qn : ¬ IsFrac (rawV qb qc qs qt)) (qi : (qs).size ≤ maxLen) (qj : (qt).size ≤ maxLen) (r s : Pp) (β : Env) : openF (.inf) (.fin (.no qb qc qs qt qn qi qj) (.ok qx qh)) r s β = openG (.inf) (.fin (.no qb qc qs qt qn qi qj) (.ok qx qh)) r s β := by kernel_rfl
theorem openV33 (qx : Rat) (qh : Fit qx) (qb qc : Bool) (qs qt : ByteArray) (qn : ¬ IsFrac (rawV qb qc qs qt)) (qi : (qs).size ≤ maxLen) (qj : (qt).size ≤ maxLen) (r s : Pp) : openH (.inf) (.fin (.no qb qc qs qt qn qi qj) (.ok qx qh)) r s = true := by kernel_rfl
theorem openW34 (qb qc : Bool) (qs qt : ByteArray) (qn : ¬ IsFrac (rawV qb qc qs qt)) (qi : (qs).size ≤ maxLen) (qj : (qt).size ≤ maxLen) (qb2 qc2 : Bool) (qs2 qt2 : ByteArray) (qn2 : ¬ IsFrac (rawV qb2 qc2 qs2 qt2)) (qi2 : (qs2).size ≤ maxLen) (qj2 : (qt2).size ≤ maxLen) (r s : Pp) (β : Env) : openF (.inf) (.fin (.no qb qc qs qt qn qi qj) (.no qb2 qc2 qs2 qt2 qn2 qi2 qj2)) r s β = openG (.inf) (.fin (.no qb qc qs qt qn qi qj) (.no qb2 qc2 qs2 qt2 qn2 qi2 qj2)) r s β := by kernel_rfl
theorem openV34 (qb qc : Bool) (qs qt : ByteArray) (qn : ¬ IsFrac (rawV qb qc qs qt)) (qi : (qs).size ≤ maxLen) (qj : (qt).size ≤ maxLen) (qb2 qc2 : Bool) (qs2 qt2 : ByteArray) (qn2 : ¬ IsFrac (rawV qb2 qc2 qs2 qt2)) (qi2 : (qs2).size ≤ maxLen) (qj2 : (qt2).size ≤ maxLen) (r s : Pp) : openH (.inf) (.fin (.no qb qc qs qt qn qi qj) (.no qb2 qc2 qs2 qt2 qn2 qi2 qj2)) r s = true := by kernel_rfl
theorem openW35 (qu qw : R4) (qo) (r s : Pp) (β : Env) : openF (.inf) (.odd qu qw qo) r s β = openG (.inf) (.odd qu qw qo) r s β := by kernel_rfl
theorem openV35 (qu qw : R4) (qo) (r s : Pp) : openH (.inf) (.odd qu qw qo) r s = true := by kernel_rfl
theorem openW36 (px py : Rat) (ph : Fit px) (pk : Fit py) (β : Env) : openF (.fin (.ok px ph) (.ok py pk)) (.inf) (.inf) (.inf) β = openG (.fin (.ok px ph) (.ok py pk)) (.inf) (.inf) (.inf) β := by kernel_rfl
theorem openV36 (px py : Rat) (ph : Fit px) (pk : Fit py) : openH (.fin (.ok px ph) (.ok py pk)) (.inf) (.inf) (.inf) = true := by kernel_rfl
theorem openW37 (px py : Rat) (ph : Fit px) (pk : Fit py) (sx sy : Rat) (sh : Fit sx) (sk : Fit sy) (β : Env) : openF (.fin (.ok px ph) (.ok py pk)) (.inf) (.inf) (.fin (.ok sx sh) (.ok sy sk)) β = openG (.fin (.ok px ph) (.ok py pk)) (.inf) (.inf) (.fin (.ok sx sh) (.ok sy sk)) β := by kernel_rfl
theorem openV37 (px py : Rat) (ph : Fit px) (pk : Fit py) (sx sy : Rat) (sh : Fit sx) (sk : Fit sy) : openH (.fin (.ok px ph) (.ok py pk)) (.inf) (.inf) (.fin (.ok sx sh) (.ok sy sk)) = true := by kernel_rfl
theorem openW38 (px py : Rat) (ph : Fit px) (pk : Fit py) (sx : Rat) (sh : Fit sx) (sb sc : Bool) (ss st : ByteArray) (sn : ¬ IsFrac (rawV sb sc ss st)) (si : (ss).size ≤ maxLen) (sj : (st).size ≤ maxLen) (β : Env) : openF (.fin (.ok px ph) (.ok py pk)) (.inf) (.inf) (.fin (.ok sx sh) (.no sb sc ss st sn si sj)) β = openG (.fin (.ok px ph) (.ok py pk)) (.inf) (.inf) (.fin (.ok sx sh) (.no sb sc ss st sn si sj)) β := by kernel_rfl
theorem openV38 (px py : Rat) (ph : Fit px) (pk : Fit py) (sx : Rat) (sh : Fit sx) (sb sc : Bool) (ss st : ByteArray) (sn : ¬ IsFrac (rawV sb sc ss st)) (si : (ss).size ≤ maxLen) (sj : (st).size ≤ maxLen) : openH (.fin (.ok px ph) (.ok py pk)) (.inf) (.inf) (.fin (.ok sx sh) (.no sb sc ss st sn si sj)) = true := by kernel_rfl
theorem openW39 (px py : Rat) (ph : Fit px) (pk : Fit py) (sx : Rat) (sh : Fit sx) (sb sc : Bool) (ss st : ByteArray) (sn : ¬ IsFrac (rawV sb sc ss st)) (si : (ss).size ≤ maxLen) (sj : (st).size ≤ maxLen) (β : Env) : openF (.fin (.ok px ph) (.ok py pk)) (.inf) (.inf) (.fin (.no sb sc ss st sn si sj) (.ok sx sh)) β = openG (.fin (.ok px ph) (.ok py pk)) (.inf) (.inf) (.fin (.no sb sc ss st sn si sj) (.ok sx sh)) β := by kernel_rfl
theorem openV39 (px py : Rat) (ph : Fit px) (pk : Fit py) (sx : Rat) (sh : Fit sx) (sb sc : Bool) (ss st : ByteArray) (sn : ¬ IsFrac (rawV sb sc ss st)) (si : (ss).size ≤ maxLen) (sj : (st).size ≤ maxLen) : openH (.fin (.ok px ph) (.ok py pk)) (.inf) (.inf) (.fin (.no sb sc ss st sn si sj) (.ok sx sh)) = true := by kernel_rfl
theorem openW40 (px py : Rat) (ph : Fit px) (pk : Fit py) (sb sc : Bool) (ss st : ByteArray) (sn : ¬ IsFrac (rawV sb sc ss st)) (si : (ss).size ≤ maxLen) (sj : (st).size ≤ maxLen) (sb2 sc2 : Bool) (ss2 st2 : ByteArray) (sn2 : ¬ IsFrac (rawV sb2 sc2 ss2 st2)) (si2 : (ss2).size ≤ maxLen) (sj2 : (st2).size ≤ maxLen) (β : Env) : openF (.fin (.ok px ph) (.ok py pk)) (.inf) (.inf) (.fin (.no sb sc ss st sn si sj) (.no sb2 sc2 ss2 st2 sn2 si2 sj2)) β = openG (.fin (.ok px ph) (.ok py pk)) (.inf) (.inf) (.fin (.no sb sc ss st sn si sj) (.no sb2 sc2 ss2 st2 sn2 si2 sj2)) β := by kernel_rfl
theorem openV40 (px py : Rat) (ph : Fit px) (pk : Fit py) (sb sc : Bool) (ss st : ByteArray) (sn : ¬ IsFrac (rawV sb sc ss st)) (si : (ss).size ≤ maxLen) (sj : (st).size ≤ maxLen) (sb2 sc2 : Bool) (ss2 st2 : ByteArray) (sn2 : ¬ IsFrac (rawV sb2 sc2 ss2 st2)) (si2 : (ss2).size ≤ maxLen) (sj2 : (st2).size ≤ maxLen) : openH (.fin (.ok px ph) (.ok py pk)) (.inf) (.inf) (.fin (.no sb sc ss st sn si sj) (.no sb2 sc2 ss2 st2 sn2 si2 sj2)) = true := by kernel_rfl
theorem openW41 (px py : Rat) (ph : Fit px) (pk : Fit py) (su sw : R4) (so) (β : Env) : openF (.fin (.ok px ph) (.ok py pk)) (.inf) (.inf) (.odd su sw so) β = openG (.fin (.ok px ph) (.ok py pk)) (.inf) (.inf) (.odd su sw so) β := by kernel_rfl
theorem openV41 (px py : Rat) (ph : Fit px) (pk : Fit py) (su sw : R4) (so) : openH (.fin (.ok px ph) (.ok py pk)) (.inf) (.inf) (.odd su sw so) = true := by kernel_rfl
theorem openW42 (px py : Rat) (ph : Fit px) (pk : Fit py) (rx ry : Rat) (rh : Fit rx) (rk : Fit ry) (β : Env) : openF (.fin (.ok px ph) (.ok py pk)) (.inf) (.fin (.ok rx rh) (.ok ry rk)) (.inf) β = openG (.fin (.ok px ph) (.ok py pk)) (.inf) (.fin (.ok rx rh) (.ok ry rk)) (.inf) β := by kernel_rfl
theorem openV42 (px py : Rat) (ph : Fit px) (pk : Fit py) (rx ry : Rat) (rh : Fit rx) (rk : Fit ry) : openH (.fin (.ok px ph) (.ok py pk)) (.inf) (.fin (.ok rx rh) (.ok ry rk)) (.inf) = true := by kernel_rfl
theorem openW43 (px py : Rat) (ph : Fit px) (pk : Fit py) (rx ry : Rat) (rh : Fit rx) (rk : Fit ry) (sx sy : Rat) (sh : Fit sx) (sk : Fit sy) (β : Env) : openF (.fin (.ok px ph) (.ok py pk)) (.inf) (.fin (.ok rx rh) (.ok ry rk)) (.fin (.ok sx sh) (.ok sy sk)) β = openG (.fin (.ok px ph) (.ok py pk)) (.inf) (.fin (.ok rx rh) (.ok ry rk)) (.fin (.ok sx sh) (.ok sy sk)) β := by kernel_rfl
theorem openV43 (px py : Rat) (ph : Fit px) (pk : Fit py) (rx ry : Rat) (rh : Fit rx) (rk : Fit ry) (sx sy : Rat) (sh : Fit sx) (sk : Fit sy) : openH (.fin (.ok px ph) (.ok py pk)) (.inf) (.fin (.ok rx rh) (.ok ry rk)) (.fin (.ok sx sh) (.ok sy sk)) = true := by kernel_rfl
theorem openW44 (px py : Rat) (ph : Fit px) (pk : Fit py) (rx ry : Rat) (rh : Fit rx) (rk : Fit ry) (sx : Rat) (sh : Fit sx) (sb sc : Bool) (ss st : ByteArray) (sn : ¬ IsFrac (rawV sb sc ss st)) (si : (ss).size ≤ maxLen) (sj : (st).size ≤ maxLen) (β : Env) : openF (.fin (.ok px ph) (.ok py pk)) (.inf) (.fin (.ok rx rh) (.ok ry rk)) (.fin (.ok sx sh) (.no sb sc ss st sn si sj)) β = openG (.fin (.ok px ph) (.ok py pk)) (.inf) (.fin (.ok rx rh) (.ok ry rk)) (.fin (.ok sx sh) (.no sb sc ss st sn si sj)) β := by kernel_rfl
theorem openV44 (px py : Rat) (ph : Fit px) (pk : Fit py) (rx ry : Rat) (rh : Fit rx) (rk : Fit ry) (sx : Rat) (sh : Fit sx) (sb sc : Bool) (ss st : ByteArray) (sn : ¬ IsFrac (rawV sb sc ss st)) (si : (ss).size ≤ maxLen) (sj : (st).size ≤ maxLen) : openH (.fin (.ok px ph) (.ok py pk)) (.inf) (.fin (.ok rx rh) (.ok ry rk)) (.fin (.ok sx sh) (.no sb sc ss st sn si sj)) = true := by kernel_rfl
theorem openW45 (px py : Rat) (ph : Fit px) (pk : Fit py) (rx ry : Rat) (rh : Fit rx) (rk : Fit ry) (sx : Rat) (sh : Fit sx) (sb sc : Bool) (ss st : ByteArray) (sn : ¬ IsFrac (rawV sb sc ss st)) (si : (ss).size ≤ maxLen) (sj : (st).size ≤ maxLen) (β : Env) : openF (.fin (.ok px ph) (.ok py pk)) (.inf) (.fin (.ok rx rh) (.ok ry rk)) (.fin (.no sb sc ss st sn si sj) (.ok sx sh)) β = openG (.fin (.ok px ph) (.ok py pk)) (.inf) (.fin (.ok rx rh) (.ok ry rk)) (.fin (.no sb sc ss st sn si sj) (.ok sx sh)) β := by kernel_rfl
theorem openV45 (px py : Rat) (ph : Fit px) (pk : Fit py) (rx ry : Rat) (rh : Fit rx) (rk : Fit ry) (sx : Rat) (sh : Fit sx) (sb sc : Bool) (ss st : ByteArray) (sn : ¬ IsFrac (rawV sb sc ss st)) (si : (ss).size ≤ maxLen) (sj : (st).size ≤ maxLen) : openH (.fin (.ok px ph) (.ok py pk)) (.inf) (.fin (.ok rx rh) (.ok ry rk)) (.fin (.no sb sc ss st sn si sj) (.ok sx sh)) = true := by kernel_rfl
theorem openW46 (px py : Rat) (ph : Fit px) (pk : Fit py) (rx ry : Rat) (rh : Fit rx) (rk : Fit ry) (sb sc : Bool) (ss st : ByteArray) (sn : ¬ IsFrac (rawV sb sc ss st)) (si : (ss).size ≤ maxLen) (sj : (st).size ≤ maxLen) (sb2 sc2 : Bool) (ss2 st2 : ByteArray) (sn2 : ¬ IsFrac (rawV sb2 sc2 ss2 st2)) (si2 : (ss2).size ≤ maxLen) (sj2 : (st2).size ≤ maxLen) (β : Env) : openF (.fin (.ok px ph) (.ok py pk)) (.inf) (.fin (.ok rx rh) (.ok ry rk)) (.fin (.no sb sc ss st sn si sj) (.no sb2 sc2 ss2 st2 sn2 si2 sj2)) β = openG (.fin (.ok px ph) (.ok py pk)) (.inf) (.fin (.ok rx rh) (.ok ry rk)) (.fin (.no sb sc ss st sn si sj) (.no sb2 sc2 ss2 st2 sn2 si2 sj2)) β := by kernel_rfl
theorem openV46 (px py : Rat) (ph : Fit px) (pk : Fit py) (rx ry : Rat) (rh : Fit rx) (rk : Fit ry) (sb sc : Bool) (ss st : ByteArray) (sn : ¬ IsFrac (rawV sb sc ss st)) (si : (ss).size ≤ maxLen) (sj : (st).size ≤ maxLen) (sb2 sc2 : Bool) (ss2 st2 : ByteArray) (sn2 : ¬ IsFrac (rawV sb2 sc2 ss2 st2)) (si2 : (ss2).size ≤ maxLen) (sj2 : (st2).size ≤ maxLen) : openH (.fin (.ok px ph) (.ok py pk)) (.inf) (.fin (.ok rx rh) (.ok ry rk)) (.fin (.no sb sc ss st sn si sj) (.no sb2 sc2 ss2 st2 sn2 si2 sj2)) = true := by kernel_rfl
theorem openW47 (px py : Rat) (ph : Fit px) (pk : Fit py) (rx ry : Rat) (rh : Fit rx) (rk : Fit ry) (su sw : R4) (so) (β : Env) : openF (.fin (.ok px ph) (.ok py pk)) (.inf) (.fin (.ok rx rh) (.ok ry rk)) (.odd su sw so) β = openG (.fin (.ok px ph) (.ok py pk)) (.inf) (.fin (.ok rx rh) (.ok ry rk)) (.odd su sw so) β := by kernel_rfl
theorem openV47 (px py : Rat) (ph : Fit px) (pk : Fit py) (rx ry : Rat) (rh : Fit rx) (rk : Fit ry) (su sw : R4) (so) : openH (.fin (.ok px ph) (.ok py pk)) (.inf) (.fin (.ok rx rh) (.ok ry rk)) (.odd su sw so) = true := by kernel_rfl
theorem openW48 (px py : Rat) (ph : Fit px) (pk : Fit py) (rx : Rat) (rh : Fit rx) (rb rc : Bool) (rs rt : ByteArray) (rn : ¬ IsFrac (rawV rb rc rs rt)) (ri : (rs).size ≤ maxLen) (rj : (rt).size ≤ maxLen) (s : Pp) (β : Env) : openF (.fin (.ok px ph) (.ok py pk)) (.inf) (.fin (.ok rx rh) (.no rb rc rs rt rn ri rj)) s β = openG (.fin (.ok px ph) (.ok py pk)) (.inf) (.fin (.ok rx rh) (.no rb rc rs rt rn ri rj)) s β := by kernel_rfl
theorem openV48 (px py : Rat) (ph : Fit px) (pk : Fit py) (rx : Rat) (rh : Fit rx) (rb rc : Bool) (rs rt : ByteArray) (rn : ¬ IsFrac (rawV rb rc rs rt)) (ri : (rs).size ≤ maxLen) (rj : (rt).size ≤ maxLen) (s : Pp) : openH (.fin (.ok px ph) (.ok py pk)) (.inf) (.fin (.ok rx rh) (.no rb rc rs rt rn ri rj)) s = true := by kernel_rfl
theorem openW49 (px py : Rat) (ph : Fit px) (pk : Fit py) (rx : Rat) (rh : Fit rx) (rb rc : Bool) (rs rt : ByteArray) (rn : ¬ IsFrac (rawV rb rc rs rt)) (ri : (rs).size ≤ maxLen) (rj : (rt).size ≤ maxLen) (s : Pp) (β : Env) : openF (.fin (.ok px ph) (.ok py pk)) (.inf) (.fin (.no rb rc rs rt rn ri rj) (.ok rx rh)) s β = openG (.fin (.ok px ph) (.ok py pk)) (.inf) (.fin (.no rb rc rs rt rn ri rj) (.ok rx rh)) s β := by kernel_rfl
theorem openV49 (px py : Rat) (ph : Fit px) (pk : Fit py) (rx : Rat) (rh : Fit rx) (rb rc : Bool) (rs rt : ByteArray) (rn : ¬ IsFrac (rawV rb rc rs rt)) (ri : (rs).size ≤ maxLen) (rj : (rt).size ≤ maxLen) (s : Pp) : openH (.fin (.ok px ph) (.ok py pk)) (.inf) (.fin (.no rb rc rs rt rn ri rj) (.ok rx rh)) s = true := by kernel_rfl
theorem openW50 (px py : Rat) (ph : Fit px) (pk : Fit py) (rb rc : Bool) (rs rt : ByteArray) (rn : ¬ IsFrac (rawV rb rc rs rt)) (ri : (rs).size ≤ maxLen) (rj : (rt).size ≤ maxLen) (rb2 rc2 : Bool) (rs2 rt2 : ByteArray) (rn2 : ¬ IsFrac (rawV rb2 rc2 rs2 rt2)) (ri2 : (rs2).size ≤ maxLen) (rj2 : (rt2).size ≤ maxLen) (s : Pp) (β : Env) : openF (.fin (.ok px ph) (.ok py pk)) (.inf) (.fin (.no rb rc rs rt rn ri rj) (.no rb2 rc2 rs2 rt2 rn2 ri2 rj2)) s β = openG (.fin (.ok px ph) (.ok py pk)) (.inf) (.fin (.no rb rc rs rt rn ri rj) (.no rb2 rc2 rs2 rt2 rn2 ri2 rj2)) s β := by kernel_rfl
theorem openV50 (px py : Rat) (ph : Fit px) (pk : Fit py) (rb rc : Bool) (rs rt : ByteArray) (rn : ¬ IsFrac (rawV rb rc rs rt)) (ri : (rs).size ≤ maxLen) (rj : (rt).size ≤ maxLen) (rb2 rc2 : Bool) (rs2 rt2 : ByteArray) (rn2 : ¬ IsFrac (rawV rb2 rc2 rs2 rt2)) (ri2 : (rs2).size ≤ maxLen) (rj2 : (rt2).size ≤ maxLen) (s : Pp) : openH (.fin (.ok px ph) (.ok py pk)) (.inf) (.fin (.no rb rc rs rt rn ri rj) (.no rb2 rc2 rs2 rt2 rn2 ri2 rj2)) s = true := by kernel_rfl
theorem openW51 (px py : Rat) (ph : Fit px) (pk : Fit py) (ru rw : R4) (ro) (s : Pp) (β : Env) : openF (.fin (.ok px ph) (.ok py pk)) (.inf) (.odd ru rw ro) s β = openG (.fin (.ok px ph) (.ok py pk)) (.inf) (.odd ru rw ro) s β := by kernel_rfl
theorem openV51 (px py : Rat) (ph : Fit px) (pk : Fit py) (ru rw : R4) (ro) (s : Pp) : openH (.fin (.ok px ph) (.ok py pk)) (.inf) (.odd ru rw ro) s = true := by kernel_rfl
theorem openW52 (px py : Rat) (ph : Fit px) (pk : Fit py) (qx qy : Rat) (qh : Fit qx) (qk : Fit qy) (β : Env) : openF (.fin (.ok px ph) (.ok py pk)) (.fin (.ok qx qh) (.ok qy qk)) (.inf) (.inf) β = openG (.fin (.ok px ph) (.ok py pk)) (.fin (.ok qx qh) (.ok qy qk)) (.inf) (.inf) β := by kernel_rfl
theorem openV52 (px py : Rat) (ph : Fit px) (pk : Fit py) (qx qy : Rat) (qh : Fit qx) (qk : Fit qy) : openH (.fin (.ok px ph) (.ok py pk)) (.fin (.ok qx qh) (.ok qy qk)) (.inf) (.inf) = true := by kernel_rfl
theorem openW53 (px py : Rat) (ph : Fit px) (pk : Fit py) (qx qy : Rat) (qh : Fit qx) (qk : Fit qy) (sx sy : Rat) (sh : Fit sx) (sk : Fit sy) (β : Env) : openF (.fin (.ok px ph) (.ok py pk)) (.fin (.ok qx qh) (.ok qy qk)) (.inf) (.fin (.ok sx sh) (.ok sy sk)) β = openG (.fin (.ok px ph) (.ok py pk)) (.fin (.ok qx qh) (.ok qy qk)) (.inf) (.fin (.ok sx sh) (.ok sy sk)) β := by kernel_rfl
theorem openV53 (px py : Rat) (ph : Fit px) (pk : Fit py) (qx qy : Rat) (qh : Fit qx) (qk : Fit qy) (sx sy : Rat) (sh : Fit sx) (sk : Fit sy) : openH (.fin (.ok px ph) (.ok py pk)) (.fin (.ok qx qh) (.ok qy qk)) (.inf) (.fin (.ok sx sh) (.ok sy sk)) = true := by kernel_rfl
theorem openW54 (px py : Rat) (ph : Fit px) (pk : Fit py) (qx qy : Rat) (qh : Fit qx) (qk : Fit qy) (sx : Rat) (sh : Fit sx) (sb sc : Bool) (ss st : ByteArray) (sn : ¬ IsFrac (rawV sb sc ss st)) (si : (ss).size ≤ maxLen) (sj : (st).size ≤ maxLen) (β : Env) : openF (.fin (.ok px ph) (.ok py pk)) (.fin (.ok qx qh) (.ok qy qk)) (.inf) (.fin (.ok sx sh) (.no sb sc ss st sn si sj)) β = openG (.fin (.ok px ph) (.ok py pk)) (.fin (.ok qx qh) (.ok qy qk)) (.inf) (.fin (.ok sx sh) (.no sb sc ss st sn si sj)) β := by kernel_rfl
theorem openV54 (px py : Rat) (ph : Fit px) (pk : Fit py) (qx qy : Rat) (qh : Fit qx) (qk : Fit qy) (sx : Rat) (sh : Fit sx) (sb sc : Bool) (ss st : ByteArray) (sn : ¬ IsFrac (rawV sb sc ss st)) (si : (ss).size ≤ maxLen) (sj : (st).size ≤ maxLen) : openH (.fin (.ok px ph) (.ok py pk)) (.fin (.ok qx qh) (.ok qy qk)) (.inf) (.fin (.ok sx sh) (.no sb sc ss st sn si sj)) = true := by kernel_rfl
theorem openW55 (px py : Rat) (ph : Fit px) (pk : Fit py) (qx qy : Rat) (qh : Fit qx) (qk : Fit qy) (sx : Rat) (sh : Fit sx) (sb sc : Bool) (ss st : ByteArray) (sn : ¬ IsFrac (rawV sb sc ss st)) (si : (ss).size ≤ maxLen) (sj : (st).size ≤ maxLen) (β : Env) : openF (.fin (.ok px ph) (.ok py pk)) (.fin (.ok qx qh) (.ok qy qk)) (.inf) (.fin (.no sb sc ss st sn si sj) (.ok sx sh)) β = openG (.fin (.ok px ph) (.ok py pk)) (.fin (.ok qx qh) (.ok qy qk)) (.inf) (.fin (.no sb sc ss st sn si sj) (.ok sx sh)) β := by kernel_rfl
theorem openV55 (px py : Rat) (ph : Fit px) (pk : Fit py) (qx qy : Rat) (qh : Fit qx) (qk : Fit qy) (sx : Rat) (sh : Fit sx) (sb sc : Bool) (ss st : ByteArray) (sn : ¬ IsFrac (rawV sb sc ss st)) (si : (ss).size ≤ maxLen) (sj : (st).size ≤ maxLen) : openH (.fin (.ok px ph) (.ok py pk)) (.fin (.ok qx qh) (.ok qy qk)) (.inf) (.fin (.no sb sc ss st sn si sj) (.ok sx sh)) = true := by kernel_rfl
theorem openW56 (px py : Rat) (ph : Fit px) (pk : Fit py) (qx qy : Rat) (qh : Fit qx) (qk : Fit qy) (sb sc : Bool) (ss st : ByteArray) (sn : ¬ IsFrac (rawV sb sc ss st)) (si : (ss).size ≤ maxLen) (sj : (st).size ≤ maxLen) (sb2 sc2 : Bool) (ss2 st2 : ByteArray) (sn2 : ¬ IsFrac (rawV sb2 sc2 ss2 st2)) (si2 : (ss2).size ≤ maxLen) (sj2 : (st2).size ≤ maxLen) (β : Env) : openF (.fin (.ok px ph) (.ok py pk)) (.fin (.ok qx qh) (.ok qy qk)) (.inf) (.fin (.no sb sc ss st sn si sj) (.no sb2 sc2 ss2 st2 sn2 si2 sj2)) β = openG (.fin (.ok px ph) (.ok py pk)) (.fin (.ok qx qh) (.ok qy qk)) (.inf) (.fin (.no sb sc ss st sn si sj) (.no sb2 sc2 ss2 st2 sn2 si2 sj2)) β := by kernel_rfl
theorem openV56 (px py : Rat) (ph : Fit px) (pk : Fit py) (qx qy : Rat) (qh : Fit qx) (qk : Fit qy) (sb sc : Bool) (ss st : ByteArray) (sn : ¬ IsFrac (rawV sb sc ss st)) (si : (ss).size ≤ maxLen) (sj : (st).size ≤ maxLen) (sb2 sc2 : Bool) (ss2 st2 : ByteArray) (sn2 : ¬ IsFrac (rawV sb2 sc2 ss2 st2)) (si2 : (ss2).size ≤ maxLen) (sj2 : (st2).size ≤ maxLen) : openH (.fin (.ok px ph) (.ok py pk)) (.fin (.ok qx qh) (.ok qy qk)) (.inf) (.fin (.no sb sc ss st sn si sj) (.no sb2 sc2 ss2 st2 sn2 si2 sj2)) = true := by kernel_rfl
theorem openW57 (px py : Rat) (ph : Fit px) (pk : Fit py) (qx qy : Rat) (qh : Fit qx) (qk : Fit qy) (su sw : R4) (so) (β : Env) : openF (.fin (.ok px ph) (.ok py pk)) (.fin (.ok qx qh) (.ok qy qk)) (.inf) (.odd su sw so) β = openG (.fin (.ok px ph) (.ok py pk)) (.fin (.ok qx qh) (.ok qy qk)) (.inf) (.odd su sw so) β := by kernel_rfl
theorem openV57 (px py : Rat) (ph : Fit px) (pk : Fit py) (qx qy : Rat) (qh : Fit qx) (qk : Fit qy) (su sw : R4) (so) : openH (.fin (.ok px ph) (.ok py pk)) (.fin (.ok qx qh) (.ok qy qk)) (.inf) (.odd su sw so) = true := by kernel_rfl
theorem openW58 (px py : Rat) (ph : Fit px) (pk : Fit py) (qx qy : Rat) (qh : Fit qx) (qk : Fit qy) (rx ry : Rat) (rh : Fit rx) (rk : Fit ry) (β : Env) : openF (.fin (.ok px ph) (.ok py pk)) (.fin (.ok qx qh) (.ok qy qk)) (.fin (.ok rx rh) (.ok ry rk)) (.inf) β = openG (.fin (.ok px ph) (.ok py pk)) (.fin (.ok qx qh) (.ok qy qk)) (.fin (.ok rx rh) (.ok ry rk)) (.inf) β := by kernel_rfl
theorem openV58 (px py : Rat) (ph : Fit px) (pk : Fit py) (qx qy : Rat) (qh : Fit qx) (qk : Fit qy) (rx ry : Rat) (rh : Fit rx) (rk : Fit ry) : openH (.fin (.ok px ph) (.ok py pk)) (.fin (.ok qx qh) (.ok qy qk)) (.fin (.ok rx rh) (.ok ry rk)) (.inf) = true := by kernel_rfl
theorem openW59 (px py : Rat) (ph : Fit px) (pk : Fit py) (qx qy : Rat) (qh : Fit qx) (qk : Fit qy) (rx ry : Rat) (rh : Fit rx) (rk : Fit ry) (sx sy : Rat) (sh : Fit sx) (sk : Fit sy) (β : Env) : openF (.fin (.ok px ph) (.ok py pk)) (.fin (.ok qx qh) (.ok qy qk)) (.fin (.ok rx rh) (.ok ry rk)) (.fin (.ok sx sh) (.ok sy sk)) β = openG (.fin (.ok px ph) (.ok py pk)) (.fin (.ok qx qh) (.ok qy qk)) (.fin (.ok rx rh) (.ok ry rk)) (.fin (.ok sx sh) (.ok sy sk)) β := by kernel_rfl
theorem openV59 (px py : Rat) (ph : Fit px) (pk : Fit py) (qx qy : Rat) (qh : Fit qx) (qk : Fit qy) (rx ry : Rat) (rh : Fit rx) (rk : Fit ry) (sx sy : Rat) (sh : Fit sx) (sk : Fit sy) : openH (.fin (.ok px ph) (.ok py pk)) (.fin (.ok qx qh) (.ok qy qk)) (.fin (.ok rx rh) (.ok ry rk)) (.fin (.ok sx sh) (.ok sy sk)) = true := by kernel_rfl
theorem openW60 (px py : Rat) (ph : Fit px) (pk : Fit py) (qx qy : Rat) (qh : Fit qx) (qk : Fit qy) (rx ry : Rat) (rh : Fit rx) (rk : Fit ry) (sx : Rat) (sh : Fit sx) (sb sc : Bool) (ss st : ByteArray) (sn : ¬ IsFrac (rawV sb sc ss st)) (si : (ss).size ≤ maxLen) (sj : (st).size ≤ maxLen) (β : Env) : openF (.fin (.ok px ph) (.ok py pk)) (.fin (.ok qx qh) (.ok qy qk)) (.fin (.ok rx rh) (.ok ry rk)) (.fin (.ok sx sh) (.no sb sc ss st sn si sj)) β = openG (.fin (.ok px ph) (.ok py pk)) (.fin (.ok qx qh) (.ok qy qk)) (.fin (.ok rx rh) (.ok ry rk)) (.fin (.ok sx sh) (.no sb sc ss st sn si sj)) β := by kernel_rfl
theorem openV60 (px py : Rat) (ph : Fit px) (pk : Fit py) (qx qy : Rat) (qh : Fit qx) (qk : Fit qy) (rx ry : Rat) (rh : Fit rx) (rk : Fit ry) (sx : Rat) (sh : Fit sx) (sb sc : Bool) (ss st : ByteArray) (sn : ¬ IsFrac (rawV sb sc ss st)) (si : (ss).size ≤ maxLen) (sj : (st).size ≤ maxLen) : openH (.fin (.ok px ph) (.ok py pk)) (.fin (.ok qx qh) (.ok qy qk)) (.fin (.ok rx rh) (.ok ry rk)) (.fin (.ok sx sh) (.no sb sc ss st sn si sj)) = true := by kernel_rfl
theorem openW61 (px py : Rat) (ph : Fit px) (pk : Fit py) (qx qy : Rat) (qh : Fit qx) (qk : Fit qy) (rx ry : Rat) (rh : Fit rx) (rk : Fit ry) (sx : Rat) (sh : Fit sx) (sb sc : Bool) (ss st : ByteArray) (sn : ¬ IsFrac (rawV sb sc ss st)) (si : (ss).size ≤ maxLen) (sj : (st).size ≤ maxLen) (β : Env) : openF (.fin (.ok px ph) (.ok py pk)) (.fin (.ok qx qh) (.ok qy qk)) (.fin (.ok rx rh) (.ok ry rk)) (.fin (.no sb sc ss st sn si sj) (.ok sx sh)) β = openG (.fin (.ok px ph) (.ok py pk)) (.fin (.ok qx qh) (.ok qy qk)) (.fin (.ok rx rh) (.ok ry rk)) (.fin (.no sb sc ss st sn si sj) (.ok sx sh)) β := by kernel_rfl
theorem openV61 (px py : Rat) (ph : Fit px) (pk : Fit py) (qx qy : Rat) (qh : Fit qx) (qk : Fit qy) (rx ry : Rat) (rh : Fit rx) (rk : Fit ry) (sx : Rat) (sh : Fit sx) (sb sc : Bool) (ss st : ByteArray) (sn : ¬ IsFrac (rawV sb sc ss st)) (si : (ss).size ≤ maxLen) (sj : (st).size ≤ maxLen) : openH (.fin (.ok px ph) (.ok py pk)) (.fin (.ok qx qh) (.ok qy qk)) (.fin (.ok rx rh) (.ok ry rk)) (.fin (.no sb sc ss st sn si sj) (.ok sx sh)) = true := by kernel_rfl
theorem openW62 (px py : Rat) (ph : Fit px) (pk : Fit py) (qx qy : Rat) (qh : Fit qx) (qk : Fit qy) (rx ry : Rat) (rh : Fit rx) (rk : Fit ry) (sb sc : Bool) (ss st : ByteArray) (sn : ¬ IsFrac (rawV sb sc ss st)) (si : (ss).size ≤ maxLen) (sj : (st).size ≤ maxLen) (sb2 sc2 : Bool) (ss2 st2 : ByteArray) (sn2 : ¬ IsFrac (rawV sb2 sc2 ss2 st2)) (si2 : (ss2).size ≤ maxLen) (sj2 : (st2).size ≤ maxLen) (β : Env) : openF (.fin (.ok px ph) (.ok py pk)) (.fin (.ok qx qh) (.ok qy qk)) (.fin (.ok rx rh) (.ok ry rk)) (.fin (.no sb sc ss st sn si sj) (.no sb2 sc2 ss2 st2 sn2 si2 sj2)) β = openG (.fin (.ok px ph) (.ok py pk)) (.fin (.ok qx qh) (.ok qy qk)) (.fin (.ok rx rh) (.ok ry rk)) (.fin (.no sb sc ss st sn si sj) (.no sb2 sc2 ss2 st2 sn2 si2 sj2)) β := by kernel_rfl
theorem openV62 (px py : Rat) (ph : Fit px) (pk : Fit py) (qx qy : Rat) (qh : Fit qx) (qk : Fit qy) (rx ry : Rat) (rh : Fit rx) (rk : Fit ry) (sb sc : Bool) (ss st : ByteArray) (sn : ¬ IsFrac (rawV sb sc ss st)) (si : (ss).size ≤ maxLen) (sj : (st).size ≤ maxLen) (sb2 sc2 : Bool) (ss2 st2 : ByteArray) (sn2 : ¬ IsFrac (rawV sb2 sc2 ss2 st2)) (si2 : (ss2).size ≤ maxLen) (sj2 : (st2).size ≤ maxLen) : openH (.fin (.ok px ph) (.ok py pk)) (.fin (.ok qx qh) (.ok qy qk)) (.fin (.ok rx rh) (.ok ry rk)) (.fin (.no sb sc ss st sn si sj) (.no sb2 sc2 ss2 st2 sn2 si2 sj2)) = true := by kernel_rfl
theorem openW63 (px py : Rat) (ph : Fit px) (pk : Fit py) (qx qy : Rat) (qh : Fit qx) (qk : Fit qy) (rx ry : Rat) (rh : Fit rx) (rk : Fit ry) (su sw : R4) (so) (β : Env) : openF (.fin (.ok px ph) (.ok py pk)) (.fin (.ok qx qh) (.ok qy qk)) (.fin (.ok rx rh) (.ok ry rk)) (.odd su sw so) β = openG (.fin (.ok px ph) (.ok py pk)) (.fin (.ok qx qh) (.ok qy qk)) (.fin (.ok rx rh) (.ok ry rk)) (.odd su sw so) β := by kernel_rfl
theorem openV63 (px py : Rat) (ph : Fit px) (pk : Fit py) (qx qy : Rat) (qh : Fit qx) (qk : Fit qy) (rx ry : Rat) (rh : Fit rx) (rk : Fit ry) (su sw : R4) (so) : openH (.fin (.ok px ph) (.ok py pk)) (.fin (.ok qx qh) (.ok qy qk)) (.fin (.ok rx rh) (.ok ry rk)) (.odd su sw so) = true := by kernel_rfl
theorem openW64 (px py : Rat) (ph : Fit px) (pk : Fit py) (qx qy : Rat) (qh : Fit qx) (qk : Fit qy) (rx : Rat) (rh : Fit rx) (rb rc : Bool) (rs rt : ByteArray) (rn : ¬ IsFrac (rawV rb rc rs rt)) (ri : (rs).size ≤ maxLen) (rj : (rt).size ≤ maxLen) (s : Pp) (β : Env) : openF (.fin (.ok px ph) (.ok py pk)) (.fin (.ok qx qh) (.ok qy qk)) (.fin (.ok rx rh) (.no rb rc rs rt rn ri rj)) s β = openG (.fin (.ok px ph) (.ok py pk)) (.fin (.ok qx qh) (.ok qy qk)) (.fin (.ok rx rh) (.no rb rc rs rt rn ri rj)) s β := by kernel_rfl
theorem openV64 (px py : Rat) (ph : Fit px) (pk : Fit py) (qx qy : Rat) (qh : Fit qx) (qk : Fit qy) (rx : Rat) (rh : Fit rx) (rb rc : Bool) (rs rt : ByteArray) (rn : ¬ IsFrac (rawV rb rc rs rt)) (ri : (rs).size ≤ maxLen) (rj : (rt).size ≤ maxLen) (s : Pp) : openH (.fin (.ok px ph) (.ok py pk)) (.fin (.ok qx qh) (.ok qy qk)) (.fin (.ok rx rh) (.no rb rc rs rt rn ri rj)) s = true := by kernel_rfl
theorem openW65 (px py : Rat) (ph : Fit px) (pk : Fit py) (qx qy : Rat) (qh : Fit qx) (qk : Fit qy) (rx : Rat) (rh : Fit rx) (rb rc : Bool) (rs rt : ByteArray) (rn : ¬ IsFrac (rawV rb rc rs rt)) (ri : (rs).size ≤ maxLen) (rj : (rt).size ≤ maxLen) (s : Pp) (β : Env) : openF (.fin (.ok px ph) (.ok py pk)) (.fin (.ok qx qh) (.ok qy qk)) (.fin (.no rb rc rs rt rn ri rj) (.ok rx rh)) s β = openG (.fin (.ok px ph) (.ok py pk)) (.fin (.ok qx qh) (.ok qy qk)) (.fin (.no rb rc rs rt rn ri rj) (.ok rx rh)) s β := by kernel_rfl
theorem openV65 (px py : Rat) (ph : Fit px) (pk : Fit py) (qx qy : Rat) (qh : Fit qx) (qk : Fit qy) (rx : Rat) (rh : Fit rx) (rb rc : Bool) (rs rt : ByteArray) (rn : ¬ IsFrac (rawV rb rc rs rt)) (ri : (rs).size ≤ maxLen) (rj : (rt).size ≤ maxLen) (s : Pp) : openH (.fin (.ok px ph) (.ok py pk)) (.fin (.ok qx qh) (.ok qy qk)) (.fin (.no rb rc rs rt rn ri rj) (.ok rx rh)) s = true := by kernel_rfl
theorem openW66 (px py : Rat) (ph : Fit px) (pk : Fit py) (qx qy : Rat) (qh : Fit qx) (qk : Fit qy) (rb rc : Bool) (rs rt : ByteArray) (rn : ¬ IsFrac (rawV rb rc rs rt)) (ri : (rs).size ≤ maxLen) (rj : (rt).size ≤ maxLen) (rb2 rc2 : Bool) (rs2 rt2 : ByteArray) (rn2 : ¬ IsFrac (rawV rb2 rc2 rs2 rt2)) (ri2 : (rs2).size ≤ maxLen) (rj2 : (rt2).size ≤ maxLen) (s : Pp) (β : Env) : openF (.fin (.ok px ph) (.ok py pk)) (.fin (.ok qx qh) (.ok qy qk)) (.fin (.no rb rc rs rt rn ri rj) (.no rb2 rc2 rs2 rt2 rn2 ri2 rj2)) s β = openG (.fin (.ok px ph) (.ok py pk)) (.fin (.ok qx qh) (.ok qy qk)) (.fin (.no rb rc rs rt rn ri rj) (.no rb2 rc2 rs2 rt2 rn2 ri2 rj2)) s β := by kernel_rfl
theorem openV66 (px py : Rat) (ph : Fit px) (pk : Fit py) (qx qy : Rat) (qh : Fit qx) (qk : Fit qy) (rb rc : Bool) (rs rt : ByteArray) (rn : ¬ IsFrac (rawV rb rc rs rt)) (ri : (rs).size ≤ maxLen) (rj : (rt).size ≤ maxLen) (rb2 rc2 : Bool) (rs2 rt2 : ByteArray) (rn2 : ¬ IsFrac (rawV rb2 rc2 rs2 rt2)) (ri2 : (rs2).size ≤ maxLen) (rj2 : (rt2).size ≤ maxLen) (s : Pp) : openH (.fin (.ok px ph) (.ok py pk)) (.fin (.ok qx qh) (.ok qy qk)) (.fin (.no rb rc rs rt rn ri rj) (.no rb2 rc2 rs2 rt2 rn2 ri2 rj2)) s = true := by kernel_rfl
theorem openW67 (px py : Rat) (ph : Fit px) (pk : Fit py) (qx qy : Rat) (qh : Fit qx) (qk : Fit qy) (ru rw : R4) (ro) (s : Pp) (β : Env) : openF (.fin (.ok px ph) (.ok py pk)) (.fin (.ok qx qh) (.ok qy qk)) (.odd ru rw ro) s β = openG (.fin (.ok px ph) (.ok py pk)) (.fin (.ok qx qh) (.ok qy qk)) (.odd ru rw ro) s β := by kernel_rfl
theorem openV67 (px py : Rat) (ph : Fit px) (pk : Fit py) (qx qy : Rat) (qh : Fit qx) (qk : Fit qy) (ru rw : R4) (ro) (s : Pp) : openH (.fin (.ok px ph) (.ok py pk)) (.fin (.ok qx qh) (.ok qy qk)) (.odd ru rw ro) s = true := by kernel_rfl
theorem openW68 (px py : Rat) (ph : Fit px) (pk : Fit py) (qx : Rat) (qh : Fit qx) (qb qc : Bool) (qs qt : ByteArray) (qn : ¬ IsFrac (rawV qb qc qs qt)) (qi : (qs).size ≤ maxLen) (qj : (qt).size ≤ maxLen) (r s : Pp) (β : Env) : openF (.fin (.ok px ph) (.ok py pk)) (.fin (.ok qx qh) (.no qb qc qs qt qn qi qj)) r s β = openG (.fin (.ok px ph) (.ok py pk)) (.fin (.ok qx qh) (.no qb qc qs qt qn qi qj)) r s β := by kernel_rfl
theorem openV68 (px py : Rat) (ph : Fit px) (pk : Fit py) (qx : Rat) (qh : Fit qx) (qb qc : Bool) (qs qt : ByteArray) (qn : ¬ IsFrac (rawV qb qc qs qt)) (qi : (qs).size ≤ maxLen) (qj : (qt).size ≤ maxLen) (r s : Pp) : openH (.fin (.ok px ph) (.ok py pk)) (.fin (.ok qx qh) (.no qb qc qs qt qn qi qj)) r s = true := by kernel_rfl
theorem openW69 (px py : Rat) (ph : Fit px) (pk : Fit py) (qx : Rat) (qh : Fit qx) (qb qc : Bool) (qs qt : ByteArray) (qn : ¬ IsFrac (rawV qb qc qs qt)) (qi : (qs).size ≤ maxLen) (qj : (qt).size ≤ maxLen) (r s : Pp) (β : Env) : openF (.fin (.ok px ph) (.ok py pk)) (.fin (.no qb qc qs qt qn qi qj) (.ok qx qh)) r s β = openG (.fin (.ok px ph) (.ok py pk)) (.fin (.no qb qc qs qt qn qi qj) (.ok qx qh)) r s β := by kernel_rfl
theorem openV69 (px py : Rat) (ph : Fit px) (pk : Fit py) (qx : Rat) (qh : Fit qx) (qb qc : Bool) (qs qt : ByteArray) (qn : ¬ IsFrac (rawV qb qc qs qt)) (qi : (qs).size ≤ maxLen) (qj : (qt).size ≤ maxLen) (r s : Pp) : openH (.fin (.ok px ph) (.ok py pk)) (.fin (.no qb qc qs qt qn qi qj) (.ok qx qh)) r s = true := by kernel_rfl
theorem openW70 (px py : Rat) (ph : Fit px) (pk : Fit py) (qb qc : Bool) (qs qt : ByteArray) (qn : ¬ IsFrac (rawV qb qc qs qt)) (qi : (qs).size ≤ maxLen) (qj : (qt).size ≤ maxLen) (qb2 qc2 : Bool) (qs2 qt2 : ByteArray) (qn2 : ¬ IsFrac (rawV qb2 qc2 qs2 qt2)) (qi2 : (qs2).size ≤ maxLen) (qj2 : (qt2).size ≤ maxLen) (r s : Pp) (β : Env) : openF (.fin (.ok px ph) (.ok py pk)) (.fin (.no qb qc qs qt qn qi qj) (.no qb2 qc2 qs2 qt2 qn2 qi2 qj2)) r s β = openG (.fin (.ok px ph) (.ok py pk)) (.fin (.no qb qc qs qt qn qi qj) (.no qb2 qc2 qs2 qt2 qn2 qi2 qj2)) r s β := by kernel_rfl
theorem openV70 (px py : Rat) (ph : Fit px) (pk : Fit py) (qb qc : Bool) (qs qt : ByteArray) (qn : ¬ IsFrac (rawV qb qc qs qt)) (qi : (qs).size ≤ maxLen) (qj : (qt).size ≤ maxLen) (qb2 qc2 : Bool) (qs2 qt2 : ByteArray) (qn2 : ¬ IsFrac (rawV qb2 qc2 qs2 qt2)) (qi2 : (qs2).size ≤ maxLen) (qj2 : (qt2).size ≤ maxLen) (r s : Pp) : openH (.fin (.ok px ph) (.ok py pk)) (.fin (.no qb qc qs qt qn qi qj) (.no qb2 qc2 qs2 qt2 qn2 qi2 qj2)) r s = true := by kernel_rfl
theorem openW71 (px py : Rat) (ph : Fit px) (pk : Fit py) (qu qw : R4) (qo) (r s : Pp) (β : Env) : openF (.fin (.ok px ph) (.ok py pk)) (.odd qu qw qo) r s β = openG (.fin (.ok px ph) (.ok py pk)) (.odd qu qw qo) r s β := by kernel_rfl
theorem openV71 (px py : Rat) (ph : Fit px) (pk : Fit py) (qu qw : R4) (qo) (r s : Pp) : openH (.fin (.ok px ph) (.ok py pk)) (.odd qu qw qo) r s = true := by kernel_rfl
theorem openW72 (px : Rat) (ph : Fit px) (pb pc : Bool) (ps pt : ByteArray) (pn : ¬ IsFrac (rawV pb pc ps pt)) (pi : (ps).size ≤ maxLen) (pj : (pt).size ≤ maxLen) (q r s : Pp) (β : Env) : openF (.fin (.ok px ph) (.no pb pc ps pt pn pi pj)) q r s β = openG (.fin (.ok px ph) (.no pb pc ps pt pn pi pj)) q r s β := by kernel_rfl
theorem openV72 (px : Rat) (ph : Fit px) (pb pc : Bool) (ps pt : ByteArray) (pn : ¬ IsFrac (rawV pb pc ps pt)) (pi : (ps).size ≤ maxLen) (pj : (pt).size ≤ maxLen) (q r s : Pp) : openH (.fin (.ok px ph) (.no pb pc ps pt pn pi pj)) q r s = true := by kernel_rfl
theorem openW73 (px : Rat) (ph : Fit px) (pb pc : Bool) (ps pt : ByteArray) (pn : ¬ IsFrac (rawV pb pc ps pt)) (pi : (ps).size ≤ maxLen) (pj : (pt).size ≤ maxLen) (q r s : Pp) (β : Env) : openF (.fin (.no pb pc ps pt pn pi pj) (.ok px ph)) q r s β = openG (.fin (.no pb pc ps pt pn pi pj) (.ok px ph)) q r s β := by kernel_rfl
theorem openV73 (px : Rat) (ph : Fit px) (pb pc : Bool) (ps pt : ByteArray) (pn : ¬ IsFrac (rawV pb pc ps pt)) (pi : (ps).size ≤ maxLen) (pj : (pt).size ≤ maxLen) (q r s : Pp) : openH (.fin (.no pb pc ps pt pn pi pj) (.ok px ph)) q r s = true := by kernel_rfl
theorem openW74 (pb pc : Bool) (ps pt : ByteArray) (pn : ¬ IsFrac (rawV pb pc ps pt)) (pi : (ps).size ≤ maxLen) (pj : (pt).size ≤ maxLen) (pb2 pc2 : Bool) (ps2 pt2 : ByteArray) (pn2 : ¬ IsFrac (rawV pb2 pc2 ps2 pt2)) (pi2 : (ps2).size ≤ maxLen) (pj2 : (pt2).size ≤ maxLen) (q r s : Pp) (β : Env) : openF (.fin (.no pb pc ps pt pn pi pj) (.no pb2 pc2 ps2 pt2 pn2 pi2 pj2)) q r s β = openG (.fin (.no pb pc ps pt pn pi pj) (.no pb2 pc2 ps2 pt2 pn2 pi2 pj2)) q r s β := by kernel_rfl
theorem openV74 (pb pc : Bool) (ps pt : ByteArray) (pn : ¬ IsFrac (rawV pb pc ps pt)) (pi : (ps).size ≤ maxLen) (pj : (pt).size ≤ maxLen) (pb2 pc2 : Bool) (ps2 pt2 : ByteArray) (pn2 : ¬ IsFrac (rawV pb2 pc2 ps2 pt2)) (pi2 : (ps2).size ≤ maxLen) (pj2 : (pt2).size ≤ maxLen) (q r s : Pp) : openH (.fin (.no pb pc ps pt pn pi pj) (.no pb2 pc2 ps2 pt2 pn2 pi2 pj2)) q r s = true := by kernel_rfl
theorem openW75 (pu pw : R4) (po) (q r s : Pp) (β : Env) : openF (.odd pu pw po) q r s β = openG (.odd pu pw po) q r s β := by kernel_rfl
theorem openV75 (pu pw : R4) (po) (q r s : Pp) : openH (.odd pu pw po) q r s = true := by kernel_rfl
theorem open_all (p q r s : Pp) (β : Env) : openF p q r s β = openG p q r s β := by
  rcases p with _ | ⟨_ | _, _ | _⟩ | _
  · rcases q with _ | ⟨_ | _, _ | _⟩ | _
    · rcases r with _ | ⟨_ | _, _ | _⟩ | _
      · rcases s with _ | ⟨_ | _, _ | _⟩ | _
        · exact openW0 ..
        · exact openW1 ..
        · exact openW2 ..
        · exact openW3 ..
        · exact openW4 ..
        · exact openW5 ..
      · rcases s with _ | ⟨_ | _, _ | _⟩ | _
        · exact openW6 ..
        · exact openW7 ..
        · exact openW8 ..
        · exact openW9 ..
        · exact openW10 ..
        · exact openW11 ..
      · exact openW12 ..
      · exact openW13 ..
      · exact openW14 ..
      · exact openW15 ..
    · rcases r with _ | ⟨_ | _, _ | _⟩ | _
      · rcases s with _ | ⟨_ | _, _ | _⟩ | _
        · exact openW16 ..
        · exact openW17 ..
        · exact openW18 ..
        · exact openW19 ..
        · exact openW20 ..
        · exact openW21 ..
      · rcases s with _ | ⟨_ | _, _ | _⟩ | _
        · exact openW22 ..
        · exact openW23 ..
        · exact openW24 ..
        · exact openW25 ..
        · exact openW26 ..
        · exact openW27 ..
      · exact openW28 ..
      · exact openW29 ..
      · exact openW30 ..
      · exact openW31 ..
    · exact openW32 ..
    · exact openW33 ..
    · exact openW34 ..
    · exact openW35 ..
  · rcases q with _ | ⟨_ | _, _ | _⟩ | _
    · rcases r with _ | ⟨_ | _, _ | _⟩ | _
      · rcases s with _ | ⟨_ | _, _ | _⟩ | _
        · exact openW36 ..
        · exact openW37 ..
        · exact openW38 ..
        · exact openW39 ..
        · exact openW40 ..
        · exact openW41 ..
      · rcases s with _ | ⟨_ | _, _ | _⟩ | _
        · exact openW42 ..
        · exact openW43 ..
        · exact openW44 ..
        · exact openW45 ..
        · exact openW46 ..
        · exact openW47 ..
      · exact openW48 ..
      · exact openW49 ..
      · exact openW50 ..
      · exact openW51 ..
    · rcases r with _ | ⟨_ | _, _ | _⟩ | _
      · rcases s with _ | ⟨_ | _, _ | _⟩ | _
        · exact openW52 ..
        · exact openW53 ..
        · exact openW54 ..
        · exact openW55 ..
        · exact openW56 ..
        · exact openW57 ..
      · rcases s with _ | ⟨_ | _, _ | _⟩ | _
        · exact openW58 ..
        · exact openW59 ..
        · exact openW60 ..
        · exact openW61 ..
        · exact openW62 ..
        · exact openW63 ..
      · exact openW64 ..
      · exact openW65 ..
      · exact openW66 ..
      · exact openW67 ..
    · exact openW68 ..
    · exact openW69 ..
    · exact openW70 ..
    · exact openW71 ..
  · exact openW72 ..
  · exact openW73 ..
  · exact openW74 ..
  · exact openW75 ..
theorem open_clo (p q r s : Pp) : openH p q r s = true := by
  rcases p with _ | ⟨_ | _, _ | _⟩ | _
  · rcases q with _ | ⟨_ | _, _ | _⟩ | _
    · rcases r with _ | ⟨_ | _, _ | _⟩ | _
      · rcases s with _ | ⟨_ | _, _ | _⟩ | _
        · exact openV0 ..
        · exact openV1 ..
        · exact openV2 ..
        · exact openV3 ..
        · exact openV4 ..
        · exact openV5 ..
      · rcases s with _ | ⟨_ | _, _ | _⟩ | _
        · exact openV6 ..
        · exact openV7 ..
        · exact openV8 ..
        · exact openV9 ..
        · exact openV10 ..
        · exact openV11 ..
      · exact openV12 ..
      · exact openV13 ..
      · exact openV14 ..
      · exact openV15 ..
    · rcases r with _ | ⟨_ | _, _ | _⟩ | _
      · rcases s with _ | ⟨_ | _, _ | _⟩ | _
        · exact openV16 ..
        · exact openV17 ..
        · exact openV18 ..
        · exact openV19 ..
        · exact openV20 ..
        · exact openV21 ..
      · rcases s with _ | ⟨_ | _, _ | _⟩ | _
        · exact openV22 ..
        · exact openV23 ..
        · exact openV24 ..
        · exact openV25 ..
        · exact openV26 ..
        · exact openV27 ..
      · exact openV28 ..
      · exact openV29 ..
      · exact openV30 ..
      · exact openV31 ..
    · exact openV32 ..
    · exact openV33 ..
    · exact openV34 ..
    · exact openV35 ..
  · rcases q with _ | ⟨_ | _, _ | _⟩ | _
    · rcases r with _ | ⟨_ | _, _ | _⟩ | _
      · rcases s with _ | ⟨_ | _, _ | _⟩ | _
        · exact openV36 ..
        · exact openV37 ..
        · exact openV38 ..
        · exact openV39 ..
        · exact openV40 ..
        · exact openV41 ..
      · rcases s with _ | ⟨_ | _, _ | _⟩ | _
        · exact openV42 ..
        · exact openV43 ..
        · exact openV44 ..
        · exact openV45 ..
        · exact openV46 ..
        · exact openV47 ..
      · exact openV48 ..
      · exact openV49 ..
      · exact openV50 ..
      · exact openV51 ..
    · rcases r with _ | ⟨_ | _, _ | _⟩ | _
      · rcases s with _ | ⟨_ | _, _ | _⟩ | _
        · exact openV52 ..
        · exact openV53 ..
        · exact openV54 ..
        · exact openV55 ..
        · exact openV56 ..
        · exact openV57 ..
      · rcases s with _ | ⟨_ | _, _ | _⟩ | _
        · exact openV58 ..
        · exact openV59 ..
        · exact openV60 ..
        · exact openV61 ..
        · exact openV62 ..
        · exact openV63 ..
      · exact openV64 ..
      · exact openV65 ..
      · exact openV66 ..
      · exact openV67 ..
    · exact openV68 ..
    · exact openV69 ..
    · exact openV70 ..
    · exact openV71 ..
  · exact openV72 ..
  · exact openV73 ..
  · exact openV74 ..
  · exact openV75 ..
noncomputable def sOpen4 (p q r s : Pp) : Spec Tryz.prog :=
  Spec.auto Tryz.call156 [.one (.a (p.C ++ q.C ++ r.C ++ s.C))] [] (.tup [.a (openA p q r s), .c (.b (.v (.int .i64 (openK p q r s))))]) (openT p q r s)
    (openE [p, q, r, s]) [] 1200 Tryz.func156 hmA (by rw [Pp.C_raw p, Pp.C_raw q, Pp.C_raw r, Pp.C_raw s]; exact open_clo p q r s) (fun β => by rw [Pp.C_raw p, Pp.C_raw q, Pp.C_raw r, Pp.C_raw s]; exact open_all p q r s β)
end
/- Complex numbers by fractions are a field; maps whose determinant is not 0. -/
section
open Go Go.RowKit
set_option maxRecDepth 100000

theorem gz_true {z : GQ} : gzero z = true ↔ z = g0 := by
  rw [gzero_iff]
  exact ⟨fun h => GQ.ext2 h.1 h.2, fun h => by rw [h]; exact ⟨rfl, rfl⟩⟩
theorem gz_false {z : GQ} : gzero z = false ↔ z ≠ g0 := by
  cases h : gzero z with
  | true => exact ⟨fun e => Bool.noConfusion e, fun e => absurd (gz_true.1 h) e⟩
  | false => exact ⟨fun _ e => by rw [gz_true.2 e] at h; exact Bool.noConfusion h, fun _ => rfl⟩
theorem gnorm_mul (z w : GQ) : gnorm (gmul z w) = gnorm z * gnorm w := by
  simp only [gnorm, gmul]; grind
theorem gnorm_zero {z : GQ} (h : gnorm z = 0) : z = g0 := by
  cases h1 : gzero z with
  | true => exact gz_true.1 h1
  | false => exact absurd h (gnorm_ne h1)
theorem gmul_zero {z w : GQ} (h : gmul z w = g0) : z = g0 ∨ w = g0 := by
  have h1 : gnorm z * gnorm w = 0 := by rw [← gnorm_mul, h]; simp only [gnorm, g0]; grind
  rcases Rat.mul_eq_zero.1 h1 with h | h
  · exact .inl (gnorm_zero h)
  · exact .inr (gnorm_zero h)
theorem gmul_ne {z w : GQ} (h : z ≠ g0) (k : w ≠ g0) : gmul z w ≠ g0 := fun e => (gmul_zero e).elim h k
theorem gnorm_inv {w : GQ} (h : w ≠ g0) : gnorm w * (gnorm w)⁻¹ = 1 := Rat.mul_inv_cancel _ (gnorm_ne (gz_false.2 h))
theorem gdiv_mul {z w : GQ} (h : w ≠ g0) : gmul (gdiv z w) w = z := by
  have hn := gnorm_inv h
  unfold gdiv
  generalize hi : (gnorm w)⁻¹ = i at hn
  unfold gnorm at hn
  refine GQ.ext2 ?_ ?_
  · simp only [gmul, gscale, gconj]; grind
  · simp only [gmul, gscale, gconj]; grind
theorem gmul_cancel {z w u : GQ} (h : u ≠ g0) (e : gmul z u = gmul w u) : z = w := by
  have h1 : gmul (gsub z w) u = g0 := by
    have e1 := congrArg GQ.re e
    have e2 := congrArg GQ.im e
    simp only [gmul] at e1 e2
    refine GQ.ext2 ?_ ?_
    · simp only [gmul, gsub, g0]; grind
    · simp only [gmul, gsub, g0]; grind
  rcases gmul_zero h1 with k | k
  · have e1 := congrArg GQ.re k
    have e2 := congrArg GQ.im k
    simp only [gsub, g0] at e1 e2
    exact GQ.ext2 (by grind) (by grind)
  · exact absurd k h
theorem gdiv_eq_iff {z w u : GQ} (h : w ≠ g0) : gdiv z w = u ↔ z = gmul u w := by
  constructor
  · intro e; rw [← e, gdiv_mul h]
  · intro e; exact gmul_cancel h (by rw [gdiv_mul h, e])
theorem gdiv_ne {z w : GQ} (h : w ≠ g0) (k : z ≠ g0) : gdiv z w ≠ g0 := fun e => k (by
  rw [gdiv_eq_iff h] at e
  rw [e]
  refine GQ.ext2 ?_ ?_ <;> (simp only [gmul, g0]; grind))
theorem gneg_ne {z : GQ} (h : z ≠ g0) : gneg z ≠ g0 := fun e => h (by
  have e1 := congrArg GQ.re e
  have e2 := congrArg GQ.im e
  simp only [gneg, g0] at e1 e2
  exact GQ.ext2 (by show z.re = 0; grind) (by show z.im = 0; grind))
theorem gconj_ne {z : GQ} (h : z ≠ g0) : gconj z ≠ g0 := fun e => h (by
  have e1 := congrArg GQ.re e
  have e2 := congrArg GQ.im e
  simp only [gconj, g0] at e1 e2
  exact GQ.ext2 e1 (by show z.im = 0; grind))
/-- Its determinant is not 0. -/
def Reg (m : MQ) : Prop := mdet m ≠ g0
theorem Reg.by_ {m : MQ} (h : Reg m) {b : Bool} (hb : gzero m.c = b) : (bif b then m.d else m.c) ≠ g0 := by
  cases b
  · exact gz_false.1 hb
  · intro e
    refine h ?_
    have hc := gz_true.1 hb
    unfold mdet
    rw [hc, show m.d = g0 from e]
    refine GQ.ext2 ?_ ?_ <;> (simp only [gsub, gmul, g0]; grind)
theorem Reg.by0 {m : MQ} (h : Reg m) {b : Bool} (hb : gzero m.c = b) : gzero (bif b then m.d else m.c) = false := gz_false.2 (h.by_ hb)
theorem det_norm {m : MQ} {b : Bool} {u : GQ} (hu : (bif b then m.d else m.c) = u) (h : u ≠ g0) : gmul (gmul (mdet (mnormB m b)) u) u = mdet m := by
  unfold mnormB
  rw [hu]
  have ha := gdiv_mul (z := m.a) h
  have hb := gdiv_mul (z := m.b) h
  have hc := gdiv_mul (z := m.c) h
  have hd := gdiv_mul (z := m.d) h
  unfold mdet
  show gmul (gmul (gsub (gmul (gdiv m.a u) (gdiv m.d u)) (gmul (gdiv m.b u) (gdiv m.c u))) u) u = _
  rw [← ha, ← hb, ← hc, ← hd]
  rw [ha, hb, hc, hd]
  generalize gdiv m.a u = a' at *
  generalize gdiv m.b u = b' at *
  generalize gdiv m.c u = c' at *
  generalize gdiv m.d u = d' at *
  rw [← ha, ← hb, ← hc, ← hd]
  refine GQ.ext2 ?_ ?_ <;> (simp only [gsub, gmul]; grind)
theorem Reg.norm {m : MQ} (h : Reg m) {b : Bool} (hu : (bif b then m.d else m.c) ≠ g0) : Reg (mnormB m b) := fun e => h (by
  rw [← det_norm rfl hu, e]
  refine GQ.ext2 ?_ ?_ <;> (simp only [gmul, g0]; grind))
theorem Reg.undo0 {m : MQ} (h : Reg m) : Reg (mundo0 m) := fun e => h (by
  have e1 := congrArg GQ.re e
  have e2 := congrArg GQ.im e
  simp only [mdet, mundo0, gsub, gmul, gneg, g0] at e1 e2
  refine GQ.ext2 ?_ ?_ <;> (simp only [mdet, gsub, gmul, g0]; grind))
theorem Reg.conj {m : MQ} (h : Reg m) (t : Bool) : Reg (mconj m t) := by
  cases t
  · exact h
  · intro e
    refine h ?_
    have e1 := congrArg GQ.re e
    have e2 := congrArg GQ.im e
    simp only [mdet, mconj, cond_true, gsub, gmul, gconj, g0] at e1 e2
    refine GQ.ext2 ?_ ?_ <;> (simp only [mdet, gsub, gmul, g0]; grind)
theorem det_beh (m n : MQ) : mdet (mbeh m n) = gmul (mdet m) (mdet (mconj n m.t)) := by
  unfold mbeh mdet
  generalize mconj n m.t = n'
  refine GQ.ext2 ?_ ?_ <;> (simp only [gsub, gadd, gmul]; grind)
theorem Reg.beh {m n : MQ} (h : Reg m) (k : Reg n) : Reg (mbeh m n) := by
  unfold Reg
  rw [det_beh]
  exact gmul_ne h (k.conj _)
theorem gint00 : gint 0 0 = g0 := rfl
theorem gint10 : gint 1 0 = ⟨1, 0⟩ := rfl
theorem across_ne {p q : Pt} (h : p ≠ q) : gacross p q ≠ g0 := by
  intro e
  have e1 := congrArg GQ.re e
  have e2 := congrArg GQ.im e
  cases p <;> cases q <;> simp only [gacross, byA, byB, gint00, gint10, gsub, gmul, g0] at e1 e2
  · exact h rfl
  · exact absurd e1 (by grind)
  · exact absurd e1 (by grind)
  · rename_i z w
    refine h (congrArg Pt.fin (GQ.ext2 ?_ ?_))
    · grind
    · grind
theorem Reg.chart {p q r : Pt} (h1 : p ≠ q) (h2 : q ≠ r) (h3 : p ≠ r) : Reg (mchart0 p q r) := by
  have k1 := across_ne h1
  have k2 := across_ne h2
  have k3 := across_ne h3
  unfold Reg
  have : mdet (mchart0 p q r) = gmul (gmul (gacross q r) (gneg (gacross p q))) (gacross p r) := by
    unfold mdet mchart0 gacross
    generalize byA p = a
    generalize byB p = b
    generalize byA q = c
    generalize byB q = d
    generalize byA r = e
    generalize byB r = f
    refine GQ.ext2 ?_ ?_ <;> (simp only [gsub, gmul, gneg]; grind)
  rw [this]
  exact gmul_ne (gmul_ne k2 (gneg_ne k1)) k3
/-- The document's chart of three points, not yet in its one form. -/
def rchart0 (a b c : Pt) : MQ := ⟨gneg (gmul (byB c) (gacross a b)), gmul (byA c) (gacross a b), gmul (byB a) (gacross b c), gneg (gmul (byA a) (gacross b c)), false⟩
theorem rchart_eq (a b c : Pt) : rchart0 a b c = mchart0 c b a := by
  unfold rchart0 mchart0 gacross
  generalize byA a = a1
  generalize byB a = a2
  generalize byA b = b1
  generalize byB b = b2
  generalize byA c = c1
  generalize byB c = c2
  congr 1 <;> (refine GQ.ext2 ?_ ?_ <;> (simp only [gsub, gmul, gneg]; grind))
end
end Go.Proofs.YtiolbdleihiocaaGreat
