/- G2, G3, Open, OpnB, OpnG. -/
import Derived.ProofKit
import Derived.OpenShut
import Derived.ShutString
import Derived.ChangeOld
import Derived.Below
import Derived.Test.YtiolbdleihiocaaGreatPk13
set_option linter.unnecessarySimpa false
set_option linter.unusedVariables false
set_option linter.unusedSimpArgs false
section
namespace Go.Proofs.YtiolbdleihiocaaGreat.Y
open Go Go.RowKit
set_option maxRecDepth 100000
def sFrat {x : Rat} (h : Fit x) : Spec Tryz.prog :=
  ⟨240, Tryz.call240, [.one (.a (fC x))], [], .one (.c (.b (.z 0 0))), [ratT x], fun β w hh => by
    obtain ⟨y, hp⟩ := parts_of (fitF x h)
    obtain rfl : x = y := fracV_inj hp.val
    exact (rat_frac hp).mono fun e w' ⟨g, he, h1, h2, h3⟩ => ⟨[newPl g], fun y hy c hc => by
      obtain rfl := List.mem_singleton.1 hy
      rw [((newPl_one g).1 c).1 hc]
      exact .inl h1, by rw [he]; exact congrArg Ending.returned (extE_z β 0 0 (newPl g)).symm, ⟨⟨g, (newPl_one g).at1, h2⟩, trivial⟩, h3⟩, by kernel_rfl⟩
def sFCmp {x y : Rat} (hx : Fit x) (hy : Fit y) : Spec Tryz.prog :=
  Spec.auto Tryz.call185 [.one (.a (fC x)), .one (.a (fC y))] [] (.tup [svI (cmpQ x y), nI' 0]) []
    [eMayF x hx, eMayF y hy, (sFrat hx).e, (sFrat hy).e, nCmp (hx.sz.mono (by decide)) (hy.sz.mono (by decide)) rfl] [(3, 7)] 400 Tryz.func185 hmA (by kernel_rfl) (fun β => by kernel_rfl)
def sR3Cmp {x y : Rat} (hx : Fit x) (hy : Fit y) : Spec Tryz.prog :=
  (Spec.auto Tryz.call190 [.one (.a (fC x)), .one (.a (fC y))] [] (.one (svI (cmpI (x.num * y.den) (y.num * x.den)))) []
    [eWTimes (Nat.le_trans hx.sz.1 (by decide)) (Nat.le_trans hy.sz.2 (by decide)), eWTimes (Nat.le_trans hy.sz.1 (by decide)) (Nat.le_trans hx.sz.2 (by decide)), eWCmp (Nat.le_trans (sz_mul hx.sz.1 hy.sz.2) (by decide)) (Nat.le_trans (sz_mul hy.sz.1 hx.sz.2) (by decide))] [(1, 12)] 400 Tryz.func190 hmA (by kernel_rfl) (fun β => by kernel_rfl)).conv (.one (svI (cmpQ x y))) (congrArg (fun n => SV.one (svI n)) (cmpQ_of x y))
def cmpG (r : Bool) (z w : GQ) : Int := bif r then cmpQ z.re w.re else cmpQ z.im w.im
theorem ne_lit {a : Int} {r : Bool} (h : (!(a == 0)) = r) : Value.bool (!(a == 0)) = .bool r := by rw [h]
noncomputable def sGCmp {z w : GQ} (hz : FitG z) (hw : FitG w) {r s : Bool} (hr : (!(cmpQ z.re w.re == 0)) = r) (hs : (!(cmpQ z.im w.im == 0)) = s) : Spec Tryz.prog :=
  ⟨91, Tryz.call91, [gS z, gS w], [], .tup [svI (cmpG r z w), nI' 0], [], fun β w' hh => by
    cases r with
    | true => exact spec_auto (evs := [(sGM (gpX z hz) (r := true) rfl).e, (sGM (gpX w hw) (r := true) rfl).e, (sFCmp hz.1 hw.1).e, .eqv 41 (.bool (!(cmpQ z.re w.re == 0))) (.bool true) (ne_lit hr)]) (Ns := []) (m := 800) Tryz.func91 hmA (fun β => by kernel_rfl) (by kernel_rfl) β w' hh
    | false => cases s with
      | true => exact spec_auto (evs := [(sGM (gpX z hz) (r := true) rfl).e, (sGM (gpX w hw) (r := true) rfl).e, (sFCmp hz.1 hw.1).e, .eqv 41 (.bool (!(cmpQ z.re w.re == 0))) (.bool false) (ne_lit hr), (sFCmp hz.2 hw.2).e, .eqv 41 (.bool (!(cmpQ z.im w.im == 0))) (.bool true) (ne_lit hs)]) (Ns := []) (m := 800) Tryz.func91 hmA (fun β => by kernel_rfl) (by kernel_rfl) β w' hh
      | false =>
        have e : cmpG false z w = 0 := by
          show cmpQ z.im w.im = 0
          rwa [Bool.not_eq_false', beq_iff_eq] at hs
        rw [e]
        exact spec_auto (evs := [(sGM (gpX z hz) (r := true) rfl).e, (sGM (gpX w hw) (r := true) rfl).e, (sFCmp hz.1 hw.1).e, .eqv 41 (.bool (!(cmpQ z.re w.re == 0))) (.bool false) (ne_lit hr), (sFCmp hz.2 hw.2).e, .eqv 41 (.bool (!(cmpQ z.im w.im == 0))) (.bool false) (ne_lit hs)]) (Ns := []) (m := 800) Tryz.func91 hmA (fun β => by kernel_rfl) (by kernel_rfl) β w' hh, by kernel_rfl⟩
noncomputable def sGCmpNo (a b : Gn) {r s : Bool} (hr : a.B = r) (hs : b.B = s) (h : (r && s) = false) : Spec Tryz.prog :=
  ⟨91, Tryz.call91, [gnS a, gnS b], [], .tup [svI 0, nI' 2], [], fun β w' hh => by
    cases r with
    | false => exact spec_auto (evs := [(sGM a.gp (a.gpB.trans hr)).e]) (Ns := []) (m := 800) Tryz.func91 hmA (fun β => by kernel_rfl) (by kernel_rfl) β w' hh
    | true =>
      obtain rfl : s = false := h
      exact spec_auto (evs := [(sGM a.gp (a.gpB.trans hr)).e, (sGM b.gp (b.gpB.trans hs)).e]) (Ns := []) (m := 800) Tryz.func91 hmA (fun β => by kernel_rfl) (by kernel_rfl) β w' hh, by kernel_rfl⟩
def sR4Cmp {z w : GQ} (hz : FitG z) (hw : FitG w) {r : Bool} (hr : (!(cmpQ z.re w.re == 0)) = r) : Spec Tryz.prog :=
  ⟨101, Tryz.call101, [gS z, gS w], [], .one (svI (cmpG r z w)), [], fun β w' hh => by
    cases r with
    | true => exact spec_auto (evs := [(sR3Cmp hz.1 hw.1).e, .eqv 12 (.bool (!(cmpQ z.re w.re == 0))) (.bool true) (ne_lit hr)]) (Ns := []) (m := 400) Tryz.func101 hmA (fun β => by kernel_rfl) (by kernel_rfl) β w' hh
    | false => exact spec_auto (evs := [(sR3Cmp hz.1 hw.1).e, .eqv 12 (.bool (!(cmpQ z.re w.re == 0))) (.bool false) (ne_lit hr), (sR3Cmp hz.2 hw.2).e]) (Ns := []) (m := 400) Tryz.func101 hmA (fun β => by kernel_rfl) (by kernel_rfl) β w' hh, by kernel_rfl⟩
abbrev realQ (x : Rat) : GQ := ⟨x, Rat.divInt 0 1⟩
theorem realQ_fit {x : Rat} (h : Fit x) : FitG (realQ x) := ⟨h, fit00.1⟩
theorem zero_lit : (Rat.divInt 0 1 : Rat) = 0 := of_decide_eq_true (by kernel_rfl : decide ((Rat.divInt 0 1 : Rat) = 0) = true)
theorem scale_eq (z : GQ) (x : Rat) : gmul z (realQ x) = gscale z x := by
  refine GQ.ext2 ?_ ?_ <;> (simp only [gmul, gscale, realQ, zero_lit]; grind)
noncomputable def sGScale {z : GQ} {x : Rat} (hz : FitG z) (hx : Fit x) : Spec Tryz.prog :=
  (Spec.auto Tryz.call90 [gS z, .one (.a (fC x))] [] (gA2 (gmul z (realQ x))) [] [(sFInt 0 (by decide) (by decide)).e, (sSure 172).e, (sTwoMul hz (realQ_fit hx)).e] [(1, 8)] 400 Tryz.func90 hmA (by kernel_rfl) (fun β => by kernel_rfl)).conv (gA2 (gscale z x)) (congrArg gA2 (scale_eq z x))
def frGn (f : Fr) : Gn := match f with
  | ⟨r, .ok x h, e⟩ => .ok (realQ x) (realQ_fit h)
  | ⟨r, .no b c s t h hs ht, e⟩ => .no ⟨⟨r, .no b c s t h hs ht, e⟩, frX (Rat.divInt 0 1) fit00.1⟩ rfl
theorem frGn_x (f : Fr) : (frGn f).x = f.r := by
  obtain ⟨r, a, e⟩ := f
  cases a with
  | ok x h => exact rL_inj e
  | no => rfl
theorem frGn_y (f : Fr) : (frGn f).y = r0 := by
  obtain ⟨r, a, e⟩ := f
  cases a <;> rfl
theorem frGn_B (f : Fr) : (frGn f).B = f.a.B := by
  obtain ⟨r, a, e⟩ := f
  cases a <;> rfl
noncomputable def sTwoScNo (a : Gn) (f : Fr) (h : (a.B && f.a.B) = false) : Spec Tryz.prog :=
  (sTwoNoS 172 a (frGn f) (by rw [frGn_B]; exact h)).as [gnS a, .one (.a (rL f.r ++ rL r0)), .one (.c sureL)] (ga0 2) (by
    show [gnS a, SV.one (.a (rL (frGn f).x ++ rL (frGn f).y)), .one (.c sureL)] = _
    rw [frGn_x, frGn_y]) rfl
noncomputable def sGScaleNo (a : Gn) (f : Fr) (h : (a.B && f.a.B) = false) : Spec Tryz.prog :=
  Spec.auto Tryz.call90 [gnS a, .one (.a (rL f.r))] [] (ga0 2) [] [(sFInt 0 (by decide) (by decide)).e, (sSure 172).e, (sTwoScNo a f h).e] [(1, 8)] 400 Tryz.func90 hmA (by kernel_rfl) (fun β => by kernel_rfl)
def smE (k : Nat) (x y : R4) (a b c d : Bool) (ha : big k x.s = a) (hb : big k x.t = b) (hc : big k y.s = c) (hd : big k y.t = d) : List (Ev Tryz.prog) :=
  evBig k x.s 23 a ha :: bif a then [] else evBig k x.t 31 b hb :: bif b then [] else evBig k y.s 40 c hc :: bif c then [] else [evBig k y.t 49 d hd]
theorem small42_ok (k : Nat) (x y x' y' : R4) {r : Bool} (hr : (smB k x y && smB k x' y') = r) (β : Env) (w : World) (hh : (Ob.box (x.L ++ y.L ++ x'.L ++ y'.L) 27).holds β w (β 0)) :
    Calls Tryz.prog 62 (([.one (.c (.b (.v (.int .i64 (k : Int))))), .one (.c (.b (.s 0 0 2 2)))] : List SV).map (SV.den β)).toArray w fun e w' => e = .returned (.bool r) ∧ Below w.heap.size w w' := by
  unfold smB at hr
  have fin : ∀ {a b c d : Bool} (ha : big k x.s = a) (hb : big k x.t = b) (hc : big k y.s = c) (hd : big k y.t = d) {a' b' c' d' : Bool} (ha' : big k x'.s = a') (hb' : big k x'.t = b') (hc' : big k y'.s = c') (hd' : big k y'.t = d'),
      Calls Tryz.prog 62 (([.one (.c (.b (.v (.int .i64 (k : Int))))), .one (.c (.b (.s 0 0 2 2)))] : List SV).map (SV.den β)).toArray w fun e w' => e = .returned (.bool (!(a || (b || (c || d))) && !(a' || (b' || (c' || d'))))) ∧ Below w.heap.size w w' := by
    intro a b c d ha hb hc hd a' b' c' d' ha' hb' hc' hd'
    cases a
    · cases b
      · cases c
        · cases d
          · cases a'
            · cases b'
              · cases c'
                · cases d' <;> exact bspec_ok (smE k x y _ _ _ _ ha hb hc hd ++ smE k x' y' _ _ _ _ ha' hb' hc' hd') [] 1200 Tryz.func62 hmA (fun β => by kernel_rfl) (by kernel_rfl) (fun β => rfl) β w hh
                · exact bspec_ok (smE k x y _ _ _ _ ha hb hc hd ++ smE k x' y' _ _ _ _ ha' hb' hc' hd') [] 1200 Tryz.func62 hmA (fun β => by kernel_rfl) (by kernel_rfl) (fun β => rfl) β w hh
              · exact bspec_ok (smE k x y _ _ _ _ ha hb hc hd ++ smE k x' y' _ _ _ _ ha' hb' hc' hd') [] 1200 Tryz.func62 hmA (fun β => by kernel_rfl) (by kernel_rfl) (fun β => rfl) β w hh
            · exact bspec_ok (smE k x y _ _ _ _ ha hb hc hd ++ smE k x' y' _ _ _ _ ha' hb' hc' hd') [] 1200 Tryz.func62 hmA (fun β => by kernel_rfl) (by kernel_rfl) (fun β => rfl) β w hh
          · exact bspec_ok (smE k x y _ _ _ _ ha hb hc hd) [] 1200 Tryz.func62 hmA (fun β => by kernel_rfl) (by kernel_rfl) (fun β => rfl) β w hh
        · exact bspec_ok (smE k x y _ _ _ _ ha hb hc hd) [] 1200 Tryz.func62 hmA (fun β => by kernel_rfl) (by kernel_rfl) (fun β => rfl) β w hh
      · exact bspec_ok (smE k x y _ _ _ _ ha hb hc hd) [] 1200 Tryz.func62 hmA (fun β => by kernel_rfl) (by kernel_rfl) (fun β => rfl) β w hh
    · exact bspec_ok (smE k x y _ _ _ _ ha hb hc hd) [] 1200 Tryz.func62 hmA (fun β => by kernel_rfl) (by kernel_rfl) (fun β => rfl) β w hh
  have := fin (a := big k x.s) rfl rfl rfl rfl (a' := big k x'.s) rfl rfl rfl rfl
  rw [hr] at this
  exact this
def sR4Small2 (k : Nat) (x y x' y' : R4) {b : Bool} (hb : (smB k x y && smB k x' y') = b) : BSpec Tryz.prog :=
  ⟨62, Tryz.call62, [.one (.c (.b (.v (.int .i64 (k : Int))))), .one (.c (.b (.s 0 0 2 2)))], x.L ++ y.L ++ x'.L ++ y'.L, 27, .bool b, small42_ok k x y x' y' hb, by kernel_rfl, fun _ => rfl⟩
end Go.Proofs.YtiolbdleihiocaaGreat.Y
end
section
namespace Go.Proofs.YtiolbdleihiocaaGreat.Y
open Go Go.RowKit
set_option maxRecDepth 100000
theorem dot_eq (z w : GQ) : (gmul (gconj z) w).re = z.re * w.re + z.im * w.im := by
  simp only [gmul, gconj]
  grind
theorem cross_eq (z w : GQ) : (gmul (gconj z) w).im = z.re * w.im - z.im * w.re := by
  simp only [gmul, gconj]
  grind
noncomputable def fA2 (x : Rat) : SV := .tup [.a (fA x), nI' (ansK x)]
noncomputable def sDotQ {z w : GQ} (hz : FitG z) (hw : FitG w) : Spec Tryz.prog :=
  (sDot hz hw).conv (.tup [.a (fA (z.re * w.re + z.im * w.im)), nI' (ansK (z.re * w.re + z.im * w.im))]) (congrArg fA2 (dot_eq z w))
noncomputable def sCrossQ {z w : GQ} (hz : FitG z) (hw : FitG w) : Spec Tryz.prog :=
  (sCross hz hw).conv (.tup [.a (fA (z.re * w.im - z.im * w.re)), nI' (ansK (z.re * w.im - z.im * w.re))]) (congrArg fA2 (cross_eq z w))
def sR4Cross {z w : GQ} (hz : FitG z) (hw : FitG w) : Spec Tryz.prog :=
  Spec.auto Tryz.call103 [gS z, gS w] [] (.one (.a (fC (z.re * w.im - z.im * w.re)))) []
    [(sR3Times (hz.1.sz.mono (by decide)) (hw.2.sz.mono (by decide))).e, (sR3Times (hz.2.sz.mono (by decide)) (hw.1.sz.mono (by decide))).e, (sR3Minus ((hz.1.sz.mul hw.2.sz).mono (by decide)) ((hz.2.sz.mul hw.1.sz).mono (by decide))).e] [(1, 11)] 400 Tryz.func103 hmA (by kernel_rfl) (fun β => by kernel_rfl)
abbrev g2N : List (Nat × Nat) := [(13, 22), (20, 7), (22, 54)]
abbrev g2A (x y x' y' : R4) : List SV := [.one (.a (rL x ++ rL y)), .one (.a (rL x' ++ rL y'))]
noncomputable def g2a (x y x' y' : R4) (h : (smB 600 x y && smB 600 x' y') = false) : Spec Tryz.prog :=
  Spec.auto Tryz.call12 (g2A x y x' y') [] (tB' true) [] [(sR4Small2 600 x y x' y' h).e, sKnown4.e] g2N 3000 Tryz.func12 hmA (by kernel_rfl) (fun β => by kernel_rfl)
def sR3MayF (f : Fr) {r : Bool} (h : f.a.B = r) : Spec Tryz.prog :=
  ⟨94, Tryz.call94, [.one (.a (rL f.r))], [], tB' r, [], fun β w hh => by
    rw [← h, ← f.e]
    obtain ⟨r, a, e⟩ := f
    cases a with
    | ok x hx => exact (Fp.may3 (.ok x hx)).ok β w hh
    | no b c s t hn hs ht => exact (Fp.may3 (.no b c s t hn hs ht)).ok β w hh, by kernel_rfl⟩
noncomputable def g2NoE (a b : Gn) (h : (a.B && b.B) = false) : List (Ev Tryz.prog) := [(sGAddNo a b h).e, (sGSubNo a b h).e, (sGMulNo a b h).e, (sGDivNo a b h).e]
noncomputable def g2NoF (a b : Gn) (h : (a.B && b.B) = false) : List (Ev Tryz.prog) := [(sGCmpNo a b rfl rfl h).e, (sDotNo a b h).e, (sCrossNo a b h).e]
noncomputable def g2NoG (a : Gn) : List (Ev Tryz.prog) := [(sIs4No a.x a.y).e, (sIs4No a.x a.y).e, (sIs4No a.x a.y).e, (sIs4No a.x a.y).e, (sNum4 2).e, sPartNo.e, sPartNo.e, sKnown4.e]
noncomputable def g2c (a b : Gn) (ha : a.B = false) (h : (smB 600 a.x a.y && smB 600 b.x b.y) = true) : Spec Tryz.prog :=
  Spec.auto Tryz.call12 (g2A a.x a.y b.x b.y) [] (tB' true) []
    ([(sR4Small2 600 a.x a.y b.x b.y h).e, (sR4MayG a ha).e] ++ g2NoE a b (by rw [ha]; rfl) ++ [(sGScaleNo a b.gp.a (by rw [ha]; rfl)).e] ++ g2NoF a b (by rw [ha]; rfl) ++ [(sR4MayG a ha).e, (sIs4No a.x a.y).e] ++ g2NoG a)
    g2N 3000 Tryz.func12 hmA (by kernel_rfl) (fun β => by kernel_rfl)
noncomputable def g2d {z : GQ} (hz : FitG z) {x : Rat} (hx : Fit x) (f : Fr) (hf : f.a.B = false) (h : (smB 600 (fR z.re) (fR z.im) && smB 600 (fR x) f.r) = true) : Spec Tryz.prog :=
  Spec.auto Tryz.call12 (g2A (fR z.re) (fR z.im) (fR x) f.r) [] (tB' true) []
    ([(sR4Small2 600 (fR z.re) (fR z.im) (fR x) f.r h).e, (sR4MayG (.ok z hz) rfl).e, (sR4MayG (.no ⟨frX x hx, f⟩ hf) rfl).e] ++ g2NoE (.ok z hz) (.no ⟨frX x hx, f⟩ hf) rfl ++ [(sGScale hz hx).e] ++ g2NoF (.ok z hz) (.no ⟨frX x hx, f⟩ hf) rfl ++
      [(sR4MayG (.ok z hz) rfl).e, (sR3MayF (frX x hx) rfl).e, (sR4Scale (hz.gsz.mono (by decide)) (hx.sz.mono (by decide))).e, (sIs4 (gscale z x)).e] ++ g2NoG (.ok z hz))
    g2N 3000 Tryz.func12 hmA (by kernel_rfl) (fun β => by kernel_rfl)
noncomputable def g2e {z : GQ} (hz : FitG z) (f g : Fr) (hf : f.a.B = false) (h : (smB 600 (fR z.re) (fR z.im) && smB 600 f.r g.r) = true) : Spec Tryz.prog :=
  Spec.auto Tryz.call12 (g2A (fR z.re) (fR z.im) f.r g.r) [] (tB' true) []
    ([(sR4Small2 600 (fR z.re) (fR z.im) f.r g.r h).e, (sR4MayG (.ok z hz) rfl).e, (sR4MayG (.no ⟨f, g⟩ (Bool.and_eq_false_iff.2 (.inl hf))) rfl).e] ++ g2NoE (.ok z hz) (.no ⟨f, g⟩ (Bool.and_eq_false_iff.2 (.inl hf))) rfl ++ [(sGScaleNo (.ok z hz) f (by rw [hf]; rfl)).e] ++ g2NoF (.ok z hz) (.no ⟨f, g⟩ (Bool.and_eq_false_iff.2 (.inl hf))) rfl ++
      [(sR4MayG (.ok z hz) rfl).e, (sR3MayF f hf).e, (sIs4No (fR z.re) (fR z.im)).e] ++ g2NoG (.ok z hz))
    g2N 3000 Tryz.func12 hmA (by kernel_rfl) (fun β => by kernel_rfl)
noncomputable def g2H {z w : GQ} (hz : FitG z) (hw : FitG w) {r s : Bool} (hr : (!(cmpQ z.re w.re == 0)) = r) (hs : (!(cmpQ z.im w.im == 0)) = s) : List (Ev Tryz.prog) :=
  [(sGScale hz hw.1).e, (sGCmp hz hw hr hs).e, (sDotQ hz hw).e, (sCrossQ hz hw).e, (sR4MayG (.ok z hz) rfl).e, (sR3MayF (frX w.re hw.1) rfl).e, (sR4Scale (hz.gsz.mono (by decide)) (hw.1.sz.mono (by decide))).e, (sIs4 (gscale z w.re)).e]
noncomputable def g2K {z w : GQ} (hz : FitG z) (hw : FitG w) {r : Bool} (hr : (!(cmpQ z.re w.re == 0)) = r) : List (Ev Tryz.prog) :=
  [(sR4Plus (hz.gsz.mono (by decide)) (hw.gsz.mono (by decide))).e, (sIs4 (gadd z w)).e, (sR4Minus (hz.gsz.mono (by decide)) (hw.gsz.mono (by decide))).e, (sIs4 (gsub z w)).e, (sR4Times (hz.gsz.mono (by decide)) (hw.gsz.mono (by decide))).e, (sIs4 (gmul z w)).e,
    (sR4Cmp hz hw hr).e, .eqv 202 (.bool (cmpG r z w == cmpG r z w)) (.bool true) (ieq_self _), (sNum4 0).e, (sR4Dot (hz.gsz.mono (by decide)) (hw.gsz.mono (by decide))).e, (sPart (z.re * w.re + z.im * w.im)).e, (sR4Cross hz hw).e, (sPart (z.re * w.im - z.im * w.re)).e, sKnown4.e]
noncomputable def g2f {z w : GQ} (hz : FitG z) (hw : FitG w) {r s : Bool} (hr : (!(cmpQ z.re w.re == 0)) = r) (hs : (!(cmpQ z.im w.im == 0)) = s) (h0 : gzero w = true) (h : (smB 600 (fR z.re) (fR z.im) && smB 600 (fR w.re) (fR w.im)) = true) : Spec Tryz.prog :=
  Spec.auto Tryz.call12 (g2A (fR z.re) (fR z.im) (fR w.re) (fR w.im)) [] (tB' true) []
    ([(sR4Small2 600 (fR z.re) (fR z.im) (fR w.re) (fR w.im) h).e, (sR4MayG (.ok z hz) rfl).e, (sR4MayG (.ok w hw) rfl).e, (sGAdd hz hw).e, (sGSub hz hw).e, (sGMul hz hw).e, (sGDiv0 hz hw h0).e] ++ g2H hz hw hr hs ++ [(sR4Zero w h0).e, (sIs4Z z).e] ++ g2K hz hw hr)
    g2N 3000 Tryz.func12 hmA (by cases r <;> cases s <;> kernel_rfl) (fun β => by cases r <;> cases s <;> kernel_rfl)
noncomputable def g2g {z w : GQ} (hz : FitG z) (hw : FitG w) {r s : Bool} (hr : (!(cmpQ z.re w.re == 0)) = r) (hs : (!(cmpQ z.im w.im == 0)) = s) (h0 : gzero w = false) (h : (smB 600 (fR z.re) (fR z.im) && smB 600 (fR w.re) (fR w.im)) = true) : Spec Tryz.prog :=
  Spec.auto Tryz.call12 (g2A (fR z.re) (fR z.im) (fR w.re) (fR w.im)) [] (tB' true) []
    ([(sR4Small2 600 (fR z.re) (fR z.im) (fR w.re) (fR w.im) h).e, (sR4MayG (.ok z hz) rfl).e, (sR4MayG (.ok w hw) rfl).e, (sGAdd hz hw).e, (sGSub hz hw).e, (sGMul hz hw).e, (sGDiv hz hw h0).e] ++ g2H hz hw hr hs ++ [(sR4Zero w h0).e, (sR4Over (hz.gsz.mono (by decide)) (hw.gsz.mono (by decide)) h0).e, (sIs4 (gdiv z w)).e] ++ g2K hz hw hr)
    g2N 3000 Tryz.func12 hmA (by cases r <;> cases s <;> kernel_rfl) (fun β => by cases r <;> cases s <;> kernel_rfl)
theorem _root_.Go.Proofs.YtiolbdleihiocaaGreat.GaussTwo_walk (x y x' y' : R4) (h : (x.s.size ≤ maxLen ∧ x.t.size ≤ maxLen) ∧ y.s.size ≤ maxLen ∧ y.t.size ≤ maxLen) (h' : (x'.s.size ≤ maxLen ∧ x'.t.size ≤ maxLen) ∧ y'.s.size ≤ maxLen ∧ y'.t.size ≤ maxLen) (w : World) :
    Calls Tryz.prog 12 #[.agg (x.V ++ y.V).toArray, .agg (x'.V ++ y'.V).toArray] w fun e w' => e = .returned (.bool true) ∧ Below w.heap.size w w' := by
  obtain ⟨a, rfl, rfl⟩ := gn_of x y h.1 h.2
  obtain ⟨b, rfl, rfl⟩ := gn_of x' y' h'.1 h'.2
  cases h1 : (smB 600 a.x a.y && smB 600 b.x b.y) with
  | false => exact spec_yes (g2a a.x a.y b.x b.y h1) rfl rfl w
  | true => cases a with
    | no g hg => exact spec_yes (g2c (.no g hg) b rfl h1) rfl rfl w
    | ok z hz => cases b with
      | ok v hv => cases h0 : gzero v with
        | true => exact spec_yes (g2f hz hv rfl rfl h0 h1) rfl rfl w
        | false => exact spec_yes (g2g hz hv rfl rfl h0 h1) rfl rfl w
      | no g hg =>
        obtain ⟨f, k⟩ := g
        cases hf : f.a.B with
        | false => exact spec_yes (g2e hz f k hf h1) rfl rfl w
        | true =>
          obtain ⟨r, fp, e⟩ := f
          cases fp with
          | no => cases hf
          | ok u hu =>
            have e2 : fR u = r := rL_inj e
            subst e2
            exact spec_yes (g2d hz hu k ((Bool.and_eq_false_iff.1 hg).elim (fun e => by cases e) id) h1) rfl rfl w
end Go.Proofs.YtiolbdleihiocaaGreat.Y
end
section
namespace Go.Proofs.YtiolbdleihiocaaGreat
open Go.ChangeShapes Go.WideShapes Go.ChangeAt Go.RowKit
theorem cellsOf_bool : Tryz.prog.cellsOf 4 = 1 := by kernel_rfl
theorem cellsOf_string : Tryz.prog.cellsOf 9 = 1 := by kernel_rfl
theorem cellsOf_whole : Tryz.prog.cellsOf 23 = 2 := by kernel_rfl
theorem cellsOf_frac : Tryz.prog.cellsOf 25 = 4 := by kernel_rfl
section
variable {H : Type} {enc : TypeId × Value → H} {w : World} {base : Nat} {spare : Nat → Bool} {held : Bool}
set_option maxRecDepth 100000 in
theorem trod_whole {fuel : Nat} {cs : List Value} {x : DataW H × List MemPlace} (h : DataW.trod enc Tryz.prog w base spare held fuel 23 cs = some x) :
    ∃ (b : Bool) (s : ByteArray), cs = [.bool b, .string s] ∧ s.size ≤ maxLen := by
  obtain ⟨xs, n, rfl, _, hlen, hxl, hf⟩ := DataW.trod_struct Tryz.underlying23 h
  rw [cellsOf_whole] at hlen
  have hx0 : xs[0]? = some (xs[0]'(by rw [hxl]; decide)) := List.getElem?_eq_getElem _
  have hx1 : xs[1]? = some (xs[1]'(by rw [hxl]; decide)) := List.getElem?_eq_getElem _
  have h0 : DataW.trod enc Tryz.prog w base spare held n 4 ((cs.drop 0).take (Tryz.prog.cellsOf 4)) = some _ := (hf 0 _ rfl).trans hx0
  have h1 : DataW.trod enc Tryz.prog w base spare held n 9 ((cs.drop 1).take (Tryz.prog.cellsOf 9)) = some _ := (hf 1 _ rfl).trans hx1
  rw [cellsOf_bool] at h0
  rw [cellsOf_string] at h1
  match cs, hlen with
  | [a, b], _ =>
    obtain ⟨p, e0, _⟩ := DataW.trod_bool Tryz.underlying4 h0
    obtain ⟨s, e1, _, hs⟩ := DataW.trod_string Tryz.underlying9 h1
    cases e0
    cases e1
    exact ⟨p, s, rfl, hs⟩
set_option maxRecDepth 100000 in
theorem trod_frac {fuel : Nat} {cs : List Value} {x : DataW H × List MemPlace} (h : DataW.trod enc Tryz.prog w base spare held fuel 25 cs = some x) :
    ∃ (b c : Bool) (s t : ByteArray), cs = [.bool b, .string s, .bool c, .string t] ∧ s.size ≤ maxLen ∧ t.size ≤ maxLen := by
  obtain ⟨xs, n, rfl, _, hlen, hxl, hf⟩ := DataW.trod_struct Tryz.underlying25 h
  rw [cellsOf_frac] at hlen
  have hx0 : xs[0]? = some (xs[0]'(by rw [hxl]; decide)) := List.getElem?_eq_getElem _
  have hx1 : xs[1]? = some (xs[1]'(by rw [hxl]; decide)) := List.getElem?_eq_getElem _
  have h0 : DataW.trod enc Tryz.prog w base spare held n 23 ((cs.drop 0).take (Tryz.prog.cellsOf 23)) = some _ := (hf 0 _ rfl).trans hx0
  have h1 : DataW.trod enc Tryz.prog w base spare held n 23 ((cs.drop 2).take (Tryz.prog.cellsOf 23)) = some _ := (hf 1 _ rfl).trans hx1
  rw [cellsOf_whole] at h0 h1
  match cs, hlen with
  | [a, b, c, d], _ =>
    obtain ⟨p, s, e0, hs⟩ := trod_whole h0
    obtain ⟨q, t, e1, ht⟩ := trod_whole h1
    cases e0
    cases e1
    exact ⟨p, q, s, t, rfl, hs, ht⟩
end
end Go.Proofs.YtiolbdleihiocaaGreat
end
section
namespace Go.Proofs.YtiolbdleihiocaaGreat
open Go Go.ChangeShapes Go.WideShapes Go.ChangeAt Go.RowKit
theorem cellsOf_gauss : Tryz.prog.cellsOf 27 = 8 := by kernel_rfl
theorem chunk {α : Type} (cs : List α) (a b : Nat) : cs.drop a = (cs.drop a).take b ++ cs.drop (a + b) := by
  rw [← List.drop_drop, List.take_append_drop]
def R4.ok (x : R4) : Prop := x.s.size ≤ maxLen ∧ x.t.size ≤ maxLen
section
variable {H : Type} {enc : TypeId × Value → H} {w : World} {base : Nat} {spare : Nat → Bool} {held : Bool}
theorem trod_r4 {fuel : Nat} {cs : List Value} {x : DataW H × List MemPlace} (h : DataW.trod enc Tryz.prog w base spare held fuel 25 cs = some x) : ∃ r : R4, cs = r.V ∧ r.ok := by
  obtain ⟨b, c, s, t, e, h1, h2⟩ := trod_frac h
  exact ⟨⟨b, s, c, t⟩, e, h1, h2⟩
set_option maxRecDepth 100000 in
theorem trod_gauss {fuel : Nat} {cs : List Value} {x : DataW H × List MemPlace} (h : DataW.trod enc Tryz.prog w base spare held fuel 27 cs = some x) : ∃ r s : R4, cs = r.V ++ s.V ∧ r.ok ∧ s.ok := by
  obtain ⟨xs, n, rfl, _, hlen, hxl, hf⟩ := DataW.trod_struct Tryz.underlying27 h
  rw [cellsOf_gauss] at hlen
  have hx0 : xs[0]? = some (xs[0]'(by rw [hxl]; decide)) := List.getElem?_eq_getElem _
  have hx1 : xs[1]? = some (xs[1]'(by rw [hxl]; decide)) := List.getElem?_eq_getElem _
  have h0 : DataW.trod enc Tryz.prog w base spare held n 25 ((cs.drop 0).take (Tryz.prog.cellsOf 25)) = some _ := (hf 0 _ rfl).trans hx0
  have h1 : DataW.trod enc Tryz.prog w base spare held n 25 ((cs.drop 4).take (Tryz.prog.cellsOf 25)) = some _ := (hf 1 _ rfl).trans hx1
  rw [cellsOf_frac] at h0 h1
  obtain ⟨r, e0, k0⟩ := trod_r4 h0
  obtain ⟨s, e1, k1⟩ := trod_r4 h1
  refine ⟨r, s, ?_, k0, k1⟩
  have := chunk cs 0 4
  rw [e0, List.drop_zero] at this
  rw [this, chunk cs (0 + 4) 4, e1, List.drop_of_length_le (by omega), List.append_nil]
end
end Go.Proofs.YtiolbdleihiocaaGreat
end
section
namespace Go.Proofs.YtiolbdleihiocaaGreat
open Go Go.ChangeShapes Go.WideShapes Go.ChangeAt Go.RowKit
section
variable {H : Type} {enc : TypeId × Value → H} {w : World} {base : Nat} {spare : Nat → Bool} {held : Bool}
set_option maxRecDepth 100000 in
theorem open_gauss {r : Reach} {b0 : Nat} {v : Value} {d : DataW H} {p : List MemPlace} (hv : Value.okWide Tryz.prog w r b0 27 v) (h : DataW.Trod enc Tryz.prog w base spare held 27 v d p) :
    ∃ x y : R4, v = .agg (x.V ++ y.V).toArray ∧ x.ok ∧ y.ok := by
  obtain ⟨cs, rfl, hsz⟩ := okWide_struct Tryz.underlying27 hv
  obtain ⟨fuel, hf⟩ := h
  obtain ⟨l⟩ := cs
  obtain ⟨a, b, rfl, hh⟩ := trod_gauss hf
  exact ⟨a, b, rfl, hh⟩
end
end Go.Proofs.YtiolbdleihiocaaGreat
end
