/- CiA, CiB, GsC, GsD, Wof, Ops, Near, Txt, GsT, CiC, CiD, CiE, CiF, Join. -/
import Derived.Shelf.Strings.Builder1
import Derived.Shelf.Strings.Builder2
import Derived.Shelf.Strings.OnBuilder
import Derived.Test.YtfnmclgicjmapaaGreatPk12
set_option linter.unnecessarySimpa false
set_option linter.unusedVariables false
set_option linter.unusedSimpArgs false
section
namespace Go.Proofs.YtfnmclgicjmapaaGreat.Y
open Go Go.RowKit
set_option maxRecDepth 100000
def rdEq (d t : Nat) (x : Rat) (k : Nat) : Ev Tryz.prog := .rd d (.binOp .eql 164 (.tmp t) (.const (.pointer none)) 164) (fun β => [.pointer ((β k).v 0), .pointer none]) [(k, (ratT x).ob)] 0 (.one (.c (.b (.v (.bool false))))) [] (fun β w h ρ o ho hx => by
  obtain ⟨a, ha, ka⟩ := needP (x := x) (k := k) h (by simp)
  have h2 : ρ (.tmp t) = .pointer (some ⟨a, 0, none⟩) ∧ ρ (.const (.pointer none)) = .pointer none := by
    rw [ha.1] at hx
    simpa [Op.operands] using hx
  refine ⟨[], w, (fun _ h => by cases h), ?_, trivial, Below.refl _ _⟩
  unfold execOp
  rw [ho]
  simp only [h2.1, h2.2]
  kernel_rfl)
def dEq (x : Rat) : Ev Tryz.prog := .dyn (fun o _ _ => match o.op with
  | .binOp .eql a (.tmp _) (.const (.pointer none)) _ => Nat.beq a 164
  | _ => false) fun o xs _ => match o.op with
  | .binOp _ _ (.tmp t) _ _ => lit (ptOf (xs.getD 0 undefS)) fun k => rdEq (o.dst.getD 0) t x k
  | _ => .eqv 0 undef undef rfl
theorem zero_div : (Rat.divInt 0 1 : Rat) = 0 := of_decide_eq_true (by kernel_rfl : decide ((Rat.divInt 0 1 : Rat) = 0) = true)
def rdNew0 (d n : Nat) : Ev Tryz.prog := .rd d (.alloc 171) (fun _ => []) [] n (.one (.c (.b (.z n 0)))) [ratT (Rat.divInt 0 1)] (fun β w h ρ o ho hx => by
  refine ⟨[newPl w.heap.size], w.alloc (.cells #[.bool false, .slice none 0 0, .bool false, .slice none 0 0] 171), fun x hx c hc => ?_, ?_, ⟨⟨_, (newPl_one _).at1, ?_⟩, trivial⟩, below_new w _⟩
  · obtain rfl := List.mem_singleton.1 hx
    rw [((newPl_one _).1 c).1 hc]
    exact .inl (Nat.le_refl _)
  · rw [extE_z]
    unfold execOp
    rw [ho]
    kernel_rfl
  · rw [zero_div]
    exact RatAt.new w)
def nZero : Ev Tryz.prog := .dyn (fun o _ _ => match o.op with
  | .alloc t' => Nat.beq t' 171
  | _ => false) fun o _ ob => lit ob.length fun n => rdNew0 (o.dst.getD 0) n
abbrev KC : Nat := 1000000
structure RQ where
  a : Rat
  b : GQ
  c : Rat
structure RSz (k : Nat) (r : RQ) : Prop where
  a : Sz k r.a
  b : GSz k r.b
  c : Sz k r.c
theorem RSz.mono {i k : Nat} {r : RQ} (h : RSz i r) (hk : i ≤ k) : RSz k r := ⟨h.a.mono hk, h.b.mono hk, h.c.mono hk⟩
abbrev rgV (k : Nat) : SV := .one (.a [.b (.z k 0), .b (.z (k + 1) 0), .b (.z (k + 2) 0), .b (.z (k + 3) 0)])
abbrev rgM (r : RQ) : List Thing := [ratT r.a, ratM r.b.re, ratM r.b.im, ratM r.c]
abbrev rgT (r : RQ) : List Thing := [ratT r.a, ratT r.b.re, ratT r.b.im, ratT r.c]
def rpow (r : RQ) : Rat := gnorm r.b - r.a * r.c
def sPower {r : RQ} (h : RSz KC r) : Spec Tryz.prog :=
  Spec.auto Tryz.call296 [rgV 0] (rgM r) (rV 4) [ratT (rpow r)] [mkR, (sNorm (h.b.mono (by decide))).e, (sMulR (h.a.mono (by decide)) (h.c.mono (by decide))).e, fSub (h.b.norm.mono (by decide)) ((h.a.mul h.c).mono (by decide))] [(1, 11)] 400 Tryz.func296 hmA (by kernel_rfl) (fun β => by kernel_rfl)
def rbyQ (i j : Bool) (r : RQ) : Rat := bif i then (bif j then r.b.im else r.b.re) else r.a
def rnm (r : RQ) (x : Rat) : RQ := ⟨r.a * x⁻¹, gscale r.b x⁻¹, r.c * x⁻¹⟩
theorem rby_sz {k : Nat} {r : RQ} (h : RSz k r) (i j : Bool) : Sz k (rbyQ i j r) := by
  cases i
  · exact h.a
  · cases j
    · exact h.b.1
    · exact h.b.2
theorem rnm_sz {k : Nat} {r : RQ} (h : RSz k r) {x : Rat} (hx : Sz k x) (h0 : x ≠ 0) : RSz (k + k) (rnm r x) :=
  ⟨h.a.mul (hx.inv h0), ⟨h.b.1.mul (hx.inv h0), h.b.2.mul (hx.inv h0)⟩, h.c.mul (hx.inv h0)⟩
def rnE {r : RQ} (h : RSz KC r) {x : Rat} (hx : Sz KC x) (h0 : x ≠ 0) : List (Ev Tryz.prog) :=
  [mkR, fInv (hx.mono (by decide)) h0, (sMulR (h.a.mono (by decide)) ((hx.inv h0).mono (by decide))).e, (sScale (h.b.mono (by decide)) ((hx.inv h0).mono (by decide))).e, (sMulR (h.c.mono (by decide)) ((hx.inv h0).mono (by decide))).e]
def sRNormal {r : RQ} (h : RSz KC r) {i j : Bool} (hi : decide (r.a = 0) = i) (hj : decide (r.b.re = 0) = j) (h0 : rbyQ i j r ≠ 0) : Spec Tryz.prog :=
  ⟨368, Tryz.call368, [rgV 0], rgM r, rgV 4, rgT (rnm r (rbyQ i j r)), fun β w hh => by
    cases i
    · exact spec_auto (args := [rgV 0]) (obs := rgM r) (res := rgV 4) (news := rgT (rnm r (rbyQ false j r))) (evs := [(sParts r.b).e, nSign (x := r.a) rfl, .eqv 27 (.bool (r.a.num.sign == 0)) (.bool false) (sign_lit hi), nSign (x := r.a) rfl, .eqv 27 (.bool (r.a.num.sign == 0)) (.bool false) (sign_lit hi)] ++ rnE h (rby_sz h false j) h0) (Ns := [(10, 13)]) (m := 800) Tryz.func368 hmA (fun β => by kernel_rfl) (by kernel_rfl) β w hh
    · cases j
      · exact spec_auto (args := [rgV 0]) (obs := rgM r) (res := rgV 4) (news := rgT (rnm r (rbyQ true false r))) (evs := [(sParts r.b).e, nSign (x := r.a) rfl, .eqv 27 (.bool (r.a.num.sign == 0)) (.bool true) (sign_lit hi), nSign (x := r.b.re) rfl, .eqv 27 (.bool (r.b.re.num.sign == 0)) (.bool false) (sign_lit hj)] ++ rnE h (rby_sz h true false) h0) (Ns := [(10, 13)]) (m := 800) Tryz.func368 hmA (fun β => by kernel_rfl) (by kernel_rfl) β w hh
      · exact spec_auto (args := [rgV 0]) (obs := rgM r) (res := rgV 4) (news := rgT (rnm r (rbyQ true true r))) (evs := [(sParts r.b).e, nSign (x := r.a) rfl, .eqv 27 (.bool (r.a.num.sign == 0)) (.bool true) (sign_lit hi), nSign (x := r.b.re) rfl, .eqv 27 (.bool (r.b.re.num.sign == 0)) (.bool true) (sign_lit hj)] ++ rnE h (rby_sz h true true) h0) (Ns := [(10, 13)]) (m := 800) Tryz.func368 hmA (fun β => by kernel_rfl) (by kernel_rfl) β w hh, by kernel_rfl⟩
def FitC (m : RQ) : Prop := Fit m.a ∧ FitG m.b ∧ Fit m.c
open Classical in
noncomputable def ciR (m : RQ) (x : Rat) : R4 := if FitC m then fR x else r40
open Classical in
noncomputable def ciK (m : RQ) : Int := if FitC m then 0 else 4
noncomputable abbrev ciC (m : RQ) : List Lf := rL (ciR m m.a) ++ rL (ciR m m.b.re) ++ rL (ciR m m.b.im) ++ rL (ciR m m.c)
abbrev cC (m : RQ) : List Lf := rL (fR m.a) ++ rL (fR m.b.re) ++ rL (fR m.b.im) ++ rL (fR m.c)
abbrev c0C : List Lf := rL r40 ++ rL r40 ++ rL r40 ++ rL r40
theorem ci_fit {m : RQ} (h : FitC m) : ciC m = cC m ∧ ciK m = 0 := by
  have e : ∀ x, ciR m x = fR x := fun x => if_pos h
  exact ⟨by rw [ciC, e, e, e, e], if_pos h⟩
theorem ci_not {m : RQ} (h : ¬ FitC m) : ciC m = c0C ∧ ciK m = 4 := by
  have e : ∀ x, ciR m x = r40 := fun x => if_neg h
  exact ⟨by rw [ciC, e, e, e, e], if_neg h⟩
noncomputable abbrev ciA (m : RQ) : SV := .tup [.a (ciC m), nI' (ciK m)]
theorem ansK_fit {x : Rat} (h : Fit x) : (ansK x != 0) = false := by rw [(ansF_fit h).2.2.2]; rfl
theorem ansK_not {x : Rat} (h : ¬ Fit x) : (ansK x != 0) = true := by rw [show ansK x = 4 from if_neg h]; rfl
section
variable {r : RQ} (h : RSz KC r) {i j : Bool} (hi : decide (r.a = 0) = i) (hj : decide (r.b.re = 0) = j) (h0 : rbyQ i j r ≠ 0)
include h hi hj h0
noncomputable def rtE : List (Ev Tryz.prog) :=
  have hn := rnm_sz h (rby_sz h i j) h0
  [(sRNormal h hi hj h0).e, (sFrac (hn.a.mono (by decide))).e, (sTold (z := gscale r.b (rbyQ i j r)⁻¹) (hn.b.mono (by decide))).e, (sFrac (hn.c.mono (by decide))).e]
theorem rtold_ok (β : Env) (w : World) (hh : ∀ (k : Nat) (t : Thing), (rgM r)[k]? = some t → t.D w (β k)) :
    Calls Tryz.prog 286 (([rgV 0] : List SV).map (SV.den β)).toArray w fun e w' => ∃ xs : List Pl, freshS β w 4 xs ∧ e = .returned ((ciA (rnm r (rbyQ i j r))).den (extE β 4 xs)) ∧ newHold w' [] xs ∧ Below w.heap.size w w' := by
  by_cases h1 : Fit (rnm r (rbyQ i j r)).a
  · by_cases h2 : FitG (rnm r (rbyQ i j r)).b
    · by_cases h3 : Fit (rnm r (rbyQ i j r)).c
      · have e : ciA (rnm r (rbyQ i j r)) = .tup [.a (fA (rnm r (rbyQ i j r)).a ++ gaC (rnm r (rbyQ i j r)).b ++ fA (rnm r (rbyQ i j r)).c), nI' 0] := by
          rw [ciA, (ci_fit ⟨h1, h2, h3⟩).1, (ci_fit ⟨h1, h2, h3⟩).2, (fA_fit h1).1, (ga_fit h2).1, (fA_fit h3).1]
          rfl
        rw [e]
        exact spec_auto (args := [rgV 0]) (obs := rgM r) (news := []) (evs := rtE h hi hj h0 ++ [.eqv 31 (.bool (ansK (rnm r (rbyQ i j r)).a != 0)) (.bool false) (ansK_ne (ansK_fit h1)), .eqv 34 (.bool (gaK (rnm r (rbyQ i j r)).b != 0)) (.bool false) (gaK_ne (gaK_fit h2)), .eqv 38 (.bool (ansK (rnm r (rbyQ i j r)).c != 0)) (.bool false) (ansK_ne (ansK_fit h3))]) (Ns := []) (m := 800) Tryz.func286 hmA (fun β => by kernel_rfl) (by kernel_rfl) β w hh
      · rw [ciA, (ci_not (m := rnm r (rbyQ i j r)) fun e => h3 e.2.2).1, (ci_not (m := rnm r (rbyQ i j r)) fun e => h3 e.2.2).2]
        exact spec_auto (args := [rgV 0]) (obs := rgM r) (news := []) (evs := rtE h hi hj h0 ++ [.eqv 31 (.bool (ansK (rnm r (rbyQ i j r)).a != 0)) (.bool false) (ansK_ne (ansK_fit h1)), .eqv 34 (.bool (gaK (rnm r (rbyQ i j r)).b != 0)) (.bool false) (gaK_ne (gaK_fit h2)), .eqv 38 (.bool (ansK (rnm r (rbyQ i j r)).c != 0)) (.bool true) (ansK_ne (ansK_not h3))]) (Ns := []) (m := 800) Tryz.func286 hmA (fun β => by kernel_rfl) (by kernel_rfl) β w hh
    · rw [ciA, (ci_not (m := rnm r (rbyQ i j r)) fun e => h2 e.2.1).1, (ci_not (m := rnm r (rbyQ i j r)) fun e => h2 e.2.1).2]
      exact spec_auto (args := [rgV 0]) (obs := rgM r) (news := []) (evs := rtE h hi hj h0 ++ [.eqv 31 (.bool (ansK (rnm r (rbyQ i j r)).a != 0)) (.bool false) (ansK_ne (ansK_fit h1)), .eqv 34 (.bool (gaK (rnm r (rbyQ i j r)).b != 0)) (.bool true) (gaK_ne (gaK_not h2))]) (Ns := []) (m := 800) Tryz.func286 hmA (fun β => by kernel_rfl) (by kernel_rfl) β w hh
  · rw [ciA, (ci_not (m := rnm r (rbyQ i j r)) fun e => h1 e.1).1, (ci_not (m := rnm r (rbyQ i j r)) fun e => h1 e.1).2]
    exact spec_auto (args := [rgV 0]) (obs := rgM r) (news := []) (evs := rtE h hi hj h0 ++ [.eqv 31 (.bool (ansK (rnm r (rbyQ i j r)).a != 0)) (.bool true) (ansK_ne (ansK_not h1))]) (Ns := []) (m := 800) Tryz.func286 hmA (fun β => by kernel_rfl) (by kernel_rfl) β w hh
noncomputable def sRTold : Spec Tryz.prog :=
  ⟨286, Tryz.call286, [rgV 0], rgM r, ciA (rnm r (rbyQ i j r)), [], rtold_ok h hi hj h0, by kernel_rfl⟩
end
theorem sgn_le {n : Int} {t : Bool} (h : decide (n ≤ 0) = t) : Value.bool (decide (n ≤ 0)) = .bool t := by rw [h]
def sMade0 {r : RQ} (h : RSz KC r) (hp : decide ((rpow r).num.sign ≤ 0) = true) : Spec Tryz.prog :=
  Spec.auto Tryz.call293 [rgV 0] (rgM r) (.tup [.a c0C, nI' 210]) [] [(sPower h).e, nSign (x := rpow r) rfl, .eqv 7 (.bool (decide ((rpow r).num.sign ≤ 0))) (.bool true) (sgn_le hp)] [] 400 Tryz.func293 hmA (by kernel_rfl) (fun β => by kernel_rfl)
noncomputable def sMade1 {r : RQ} (h : RSz KC r) (hp : decide ((rpow r).num.sign ≤ 0) = false) {i j : Bool} (hi : decide (r.a = 0) = i) (hj : decide (r.b.re = 0) = j) (h0 : rbyQ i j r ≠ 0) : Spec Tryz.prog :=
  Spec.auto Tryz.call293 [rgV 0] (rgM r) (ciA (rnm r (rbyQ i j r))) [] [(sPower h).e, nSign (x := rpow r) rfl, .eqv 7 (.bool (decide ((rpow r).num.sign ≤ 0))) (.bool false) (sgn_le hp), (sRTold h hi hj h0).e] [] 400 Tryz.func293 hmA (by kernel_rfl) (fun β => by kernel_rfl)
def rby (r : RQ) : Rat := rbyQ (decide (r.a = 0)) (decide (r.b.re = 0)) r
def rone (r : RQ) : RQ := rnm r (rby r)
theorem rby_ne {r : RQ} (hp : decide ((rpow r).num.sign ≤ 0) = false) : rby r ≠ 0 := by
  intro e
  unfold rby rbyQ at e
  have hs := of_decide_eq_false hp
  cases h1 : decide (r.a = 0) with
  | false => rw [h1] at e; exact of_decide_eq_false h1 e
  | true => cases h2 : decide (r.b.re = 0) with
    | false => rw [h1, h2] at e; exact of_decide_eq_false h2 e
    | true =>
      rw [h1, h2] at e
      have ha := of_decide_eq_true h1
      have hr := of_decide_eq_true h2
      have hi : r.b.im = 0 := e
      apply hs
      have : rpow r = 0 := by
        unfold rpow gnorm
        rw [ha, hr, hi]
        grind
      rw [this]
      decide
noncomputable def sMade2 {r : RQ} (h : RSz KC r) (hp : decide ((rpow r).num.sign ≤ 0) = false) : Spec Tryz.prog := sMade1 h hp rfl rfl (rby_ne hp)
def ofG {z : GQ} (h : FitG z) : Spec Tryz.prog := sOf (.ok z.re h.1) (.ok z.im h.2)
section
variable {a : Rat} {b : GQ} {c : Rat} (ha : Fit a) (hb : FitG b) (hc : Fit c)
abbrev mkA (a : Rat) (b : GQ) (c : Rat) : List SV := [.one (.a (fC a)), gS b, .one (.a (fC c))]
include ha hb hc in
theorem mk_sz : RSz KC ⟨a, b, c⟩ := ⟨ha.sz.mono (by decide), hb.gsz.mono (by decide), hc.sz.mono (by decide)⟩
noncomputable def sCMake0 (hp : decide ((rpow ⟨a, b, c⟩).num.sign ≤ 0) = true) : Spec Tryz.prog :=
  Spec.auto Tryz.call123 (mkA a b c) [] (.tup [.a c0C, nI' 210]) [] [(ofG hb).e, (sRatIn ha).e, (sRatIn hc).e, dEq a, dEq c, (sMade0 (mk_sz ha hb hc) hp).e] [(2, 6)] 400 Tryz.func123 hmA (by kernel_rfl) (fun β => by kernel_rfl)
noncomputable def sCMake (hp : decide ((rpow ⟨a, b, c⟩).num.sign ≤ 0) = false) : Spec Tryz.prog :=
  Spec.auto Tryz.call123 (mkA a b c) [] (ciA (rone ⟨a, b, c⟩)) [] [(ofG hb).e, (sRatIn ha).e, (sRatIn hc).e, dEq a, dEq c, (sMade2 (mk_sz ha hb hc) hp).e] [(2, 6)] 400 Tryz.func123 hmA (by kernel_rfl) (fun β => by kernel_rfl)
abbrev roundQ (b : GQ) (c : Rat) : RQ := ⟨Rat.divInt 1 1, gneg (gconj b), gnorm b - c⟩
theorem one_sz : Sz 8 (Rat.divInt 1 1) := sz_lit 1 1 (by decide) (by decide) (by decide)
include hb hc in
theorem rd_sz : RSz KC (roundQ b c) := ⟨one_sz.mono (by decide), hb.gsz.conj.neg.mono (by decide), (hb.gsz.norm.sub hc.sz).mono (by decide)⟩
noncomputable def rdE : List (Ev Tryz.prog) := [(ofG hb).e, (sRatIn hc).e, dEq c, nNew 1 1 (by decide) (by decide) (by decide), (sConj b).e, (sNeg (gconj b)).e, mkR, (sNorm (hb.gsz.mono (by decide))).e, fSub (hb.gsz.norm.mono (by decide)) (hc.sz.mono (by decide))]
noncomputable def sCRound0 (hp : decide ((rpow (roundQ b c)).num.sign ≤ 0) = true) : Spec Tryz.prog :=
  Spec.auto Tryz.call124 [gS b, .one (.a (fC c))] [] (.tup [.a c0C, nI' 210]) [] (rdE hb hc ++ [(sMade0 (rd_sz hb hc) hp).e]) [(5, 13)] 400 Tryz.func124 hmA (by kernel_rfl) (fun β => by kernel_rfl)
noncomputable def sCRound (hp : decide ((rpow (roundQ b c)).num.sign ≤ 0) = false) : Spec Tryz.prog :=
  Spec.auto Tryz.call124 [gS b, .one (.a (fC c))] [] (ciA (rone (roundQ b c))) [] (rdE hb hc ++ [(sMade2 (rd_sz hb hc) hp).e]) [(5, 13)] 400 Tryz.func124 hmA (by kernel_rfl) (fun β => by kernel_rfl)
end
section
variable {n z : GQ} (hn : FitG n) (hz : FitG z)
abbrev lineQ (n z : GQ) : RQ := ⟨Rat.divInt 0 1, gconj n, Rat.divInt (-2) 1 * (gmul (gconj n) z).re⟩
theorem two_sz : Sz 8 (Rat.divInt (-2) 1) := sz_lit (-2) 1 (by decide) (by decide) (by decide)
theorem zero_sz : Sz 8 (Rat.divInt 0 1) := sz_lit 0 1 (by decide) (by decide) (by decide)
include hn hz in
theorem ln_sz : RSz KC (lineQ n z) := ⟨zero_sz.mono (by decide), hn.gsz.conj.mono (by decide), (two_sz.mul (hn.gsz.conj.mul hz.gsz).1).mono (by decide)⟩
noncomputable def lnE : List (Ev Tryz.prog) := [(ofG hn).e, (ofG hz).e, (sConj n).e, (sMul (hn.gsz.conj.mono (by decide)) (hz.gsz.mono (by decide))).e, (sParts (gmul (gconj n) z)).e, nZero, (sConj n).e, mkR, nNew (-2) 1 (by decide) (by decide) (by decide), fMul (two_sz.mono (by decide)) ((hn.gsz.conj.mul hz.gsz).1.mono (by decide))]
noncomputable def sCLine0 (hp : decide ((rpow (lineQ n z)).num.sign ≤ 0) = true) : Spec Tryz.prog :=
  Spec.auto Tryz.call125 [gS n, gS z] [] (.tup [.a c0C, nI' 210]) [] (lnE hn hz ++ [(sMade0 (ln_sz hn hz) hp).e]) [(5, 10)] 400 Tryz.func125 hmA (by kernel_rfl) (fun β => by kernel_rfl)
noncomputable def sCLine (hp : decide ((rpow (lineQ n z)).num.sign ≤ 0) = false) : Spec Tryz.prog :=
  Spec.auto Tryz.call125 [gS n, gS z] [] (ciA (rone (lineQ n z))) [] (lnE hn hz ++ [(sMade2 (ln_sz hn hz) hp).e]) [(5, 10)] 400 Tryz.func125 hmA (by kernel_rfl) (fun β => by kernel_rfl)
end
end Go.Proofs.YtfnmclgicjmapaaGreat.Y
end
section
namespace Go.Proofs.YtfnmclgicjmapaaGreat.Y
open Go Go.RowKit
set_option maxRecDepth 100000
def cirV (a b b' c : R4) : Array Value := #[.bool a.b, .string a.s, .bool a.c, .string a.t, .bool b.b, .string b.s, .bool b.c, .string b.t, .bool b'.b, .string b'.s, .bool b'.c, .string b'.t, .bool c.b, .string c.s, .bool c.c, .string c.t]
def frV (a : R4) : Array Value := #[.bool a.b, .string a.s, .bool a.c, .string a.t]
theorem eqCi {w : World} (n : Nat) (a b b' c p q q' s : R4) : (Op.equalIn (n + 5) 126 (.agg (cirV a b b' c)) (.agg (cirV p q q' s))).run Tryz.prog w = .ok (a.eq p && (geq b b' q q' && (c.eq s && true))) w := by
  unfold cirV
  rw [run_equalIn_agg _ _ _ _ _ (by kernel_rfl) (by kernel_rfl)]
  refine run_eqF_cons (a := .agg (frV a)) (b := .agg (frV p)) (by kernel_rfl) (by kernel_rfl) (by kernel_rfl) (eqF (n + 1) _ _ _ _ _ _ _ _) ?_
  refine run_eqF_cons (a := .agg (gV b b')) (b := .agg (gV q q')) (by kernel_rfl) (by kernel_rfl) (by kernel_rfl) (eqG n _ _ _ _) ?_
  refine run_eqF_cons (a := .agg (frV c)) (b := .agg (frV s)) (by kernel_rfl) (by kernel_rfl) (by kernel_rfl) (eqF (n + 1) _ _ _ _ _ _ _ _) ?_
  kernel_rfl
def eqEvC (a b b' c p q q' s : R4) (r : Bool) (h : (a.eq p && (geq b b' q q' && (c.eq s && true))) = r) : Ev Tryz.prog :=
  eqEv 126 (cirV a b b' c) (cirV p q q' s) r (by kernel_rfl) (fun w => by rw [← h]; exact eqCi 9995 ..)
theorem ceq_self (a b b' c : R4) : (a.eq a && (geq b b' b b' && (c.eq c && true))) = true := by
  rw [R4.eq_iff.2 rfl, R4.eq_iff.2 rfl, geq_self]; rfl
def eqC1 (a b b' c : R4) : Ev Tryz.prog := eqEvC a b b' c a b b' c true (ceq_self ..)
def sCPower {r : RQ} (h : RSz KC r) : Spec Tryz.prog :=
  Spec.auto Tryz.call140 [.one (.a (cC r))] [] (.one (.a (fC (rpow r)))) [] [(sR4Norm (h.b.mono (by decide))).e, (sR3Times (h.a.mono (by decide)) (h.c.mono (by decide))).e, (sR3Minus (h.b.norm.mono (by decide)) ((h.a.mul h.c).mono (by decide))).e] [(1, 9)] 400 Tryz.func140 hmA (by kernel_rfl) (fun β => by kernel_rfl)
def sCOver {z : GQ} {x : Rat} (hz : GSz KC z) (hx : Sz KC x) (h0 : x ≠ 0) : Spec Tryz.prog :=
  Spec.auto Tryz.call369 [gS z, .one (.a (fC x))] [] (gS ⟨z.re / x, z.im / x⟩) [] [(sR3Over (hz.1.mono (by decide)) (hx.mono (by decide)) h0).e, (sR3Over (hz.2.mono (by decide)) (hx.mono (by decide)) h0).e] [(1, 9)] 400 Tryz.func369 hmA (by kernel_rfl) (fun β => by kernel_rfl)
def rqd (r : RQ) (x : Rat) : RQ := ⟨r.a / x, ⟨r.b.re / x, r.b.im / x⟩, r.c / x⟩
theorem rqd_eq (r : RQ) (x : Rat) : rqd r x = rnm r x := by
  unfold rqd rnm gscale
  rw [Rat.div_def, Rat.div_def, Rat.div_def, Rat.div_def]
def cnE {r : RQ} (h : RSz KC r) {x : Rat} (hx : Sz KC x) (h0 : x ≠ 0) : List (Ev Tryz.prog) :=
  [(sR3Over (h.a.mono (by decide)) (hx.mono (by decide)) h0).e, (sCOver h.b hx h0).e, (sR3Over (h.c.mono (by decide)) (hx.mono (by decide)) h0).e]
def rS (r : RQ) : SV := .one (.a (cC r))
def sCNormal {r : RQ} (h : RSz KC r) {i j : Bool} (hi : decide (r.a = 0) = i) (hj : decide (r.b.re = 0) = j) (h0 : rbyQ i j r ≠ 0) : Spec Tryz.prog :=
  ⟨289, Tryz.call289, [.one (.a (fC r.a)), gS r.b, .one (.a (fC r.c))], [], .one (.a (cC (rqd r (rbyQ i j r)))), [], fun β w hh => by
    cases i
    · exact spec_auto (evs := [(sR3Sign (x := r.a) rfl).e, .eqv 11 (.bool (r.a.num.sign == 0)) (.bool false) (sign_lit hi), (sR3Sign (x := r.a) rfl).e, .eqv 16 (.bool (r.a.num.sign == 0)) (.bool false) (sign_lit hi)] ++ cnE h (rby_sz h false j) h0) (Ns := [(6, 10)]) (m := 800) Tryz.func289 hmA (fun β => by kernel_rfl) (by kernel_rfl) β w hh
    · cases j
      · exact spec_auto (evs := [(sR3Sign (x := r.a) rfl).e, .eqv 11 (.bool (r.a.num.sign == 0)) (.bool true) (sign_lit hi), (sR3Sign (x := r.b.re) rfl).e, .eqv 16 (.bool (r.b.re.num.sign == 0)) (.bool false) (sign_lit hj)] ++ cnE h (rby_sz h true false) h0) (Ns := [(6, 10)]) (m := 800) Tryz.func289 hmA (fun β => by kernel_rfl) (by kernel_rfl) β w hh
      · exact spec_auto (evs := [(sR3Sign (x := r.a) rfl).e, .eqv 11 (.bool (r.a.num.sign == 0)) (.bool true) (sign_lit hi), (sR3Sign (x := r.b.re) rfl).e, .eqv 16 (.bool (r.b.re.num.sign == 0)) (.bool true) (sign_lit hj)] ++ cnE h (rby_sz h true true) h0) (Ns := [(6, 10)]) (m := 800) Tryz.func289 hmA (fun β => by kernel_rfl) (by kernel_rfl) β w hh, by kernel_rfl⟩
def sCNorm1 {r : RQ} (h : RSz KC r) (hp : decide ((rpow r).num.sign ≤ 0) = false) : Spec Tryz.prog :=
  (sCNormal h rfl rfl (rby_ne hp)).conv (.one (.a (cC (rone r)))) (congrArg rS (rqd_eq r (rby r)))
def wtB (r : RQ) : Bool := decide ((rpow r).num.sign ≤ 0)
def wtR (r : RQ) (x : Rat) : R4 := bif wtB r then r40 else fR x
def wtK (r : RQ) : Int := bif wtB r then 210 else 0
abbrev wtC (r : RQ) : List Lf := rL (wtR r (rone r).a) ++ rL (wtR r (rone r).b.re) ++ rL (wtR r (rone r).b.im) ++ rL (wtR r (rone r).c)
theorem wt_no {r : RQ} (h : decide ((rpow r).num.sign ≤ 0) = true) : wtC r = c0C ∧ wtK r = 210 := by
  have e : wtB r = true := h
  exact ⟨by simp only [wtC, wtR, e, cond_true], by rw [wtK, e]; rfl⟩
theorem wt_yes {r : RQ} (h : decide ((rpow r).num.sign ≤ 0) = false) : wtC r = cC (rone r) ∧ wtK r = 0 := by
  have e : wtB r = false := h
  exact ⟨by simp only [wtC, wtR, e, cond_false], by rw [wtK, e]; rfl⟩
noncomputable def mdR (r : RQ) (x : Rat) : R4 := bif wtB r then r40 else ciR (rone r) x
noncomputable def mdK (r : RQ) : Int := bif wtB r then 210 else ciK (rone r)
noncomputable abbrev mdC (r : RQ) : List Lf := rL (mdR r (rone r).a) ++ rL (mdR r (rone r).b.re) ++ rL (mdR r (rone r).b.im) ++ rL (mdR r (rone r).c)
theorem md_no {r : RQ} (h : decide ((rpow r).num.sign ≤ 0) = true) : mdC r = c0C ∧ mdK r = 210 := by
  have e : wtB r = true := h
  exact ⟨by simp only [mdC, mdR, e, cond_true], by rw [mdK, e]; rfl⟩
theorem md_yes {r : RQ} (h : decide ((rpow r).num.sign ≤ 0) = false) : mdC r = ciC (rone r) ∧ mdK r = ciK (rone r) := by
  have e : wtB r = false := h
  exact ⟨by simp only [mdC, mdR, e, cond_false], by rw [mdK, e]; rfl⟩
noncomputable abbrev mdA (r : RQ) : SV := .tup [.a (mdC r), nI' (mdK r)]
abbrev wtA (r : RQ) : SV := .tup [.a (wtC r), nI' (wtK r)]
def sCRMake {r : RQ} (h : RSz KC r) : Spec Tryz.prog :=
  ⟨126, Tryz.call126, [.one (.a (fC r.a)), gS r.b, .one (.a (fC r.c))], [], wtA r, [], fun β w hh => by
    cases hp : decide ((rpow r).num.sign ≤ 0) with
    | true =>
      rw [wtA, (wt_no hp).1, (wt_no hp).2]
      exact spec_auto (evs := [(sCPower h).e, (sR3Sign (x := rpow r) rfl).e, .eqv 14 (.bool (decide ((rpow r).num.sign ≤ 0))) (.bool true) (sgn_le hp)]) (Ns := []) (m := 400) Tryz.func126 hmA (fun β => by kernel_rfl) (by kernel_rfl) β w hh
    | false =>
      rw [wtA, (wt_yes hp).1, (wt_yes hp).2]
      exact spec_auto (evs := [(sCPower h).e, (sR3Sign (x := rpow r) rfl).e, .eqv 14 (.bool (decide ((rpow r).num.sign ≤ 0))) (.bool false) (sgn_le hp), (sCNorm1 h hp).e]) (Ns := []) (m := 400) Tryz.func126 hmA (fun β => by kernel_rfl) (by kernel_rfl) β w hh, by kernel_rfl⟩
def sCTwice {x : Rat} (hx : Sz K3 x) : Spec Tryz.prog :=
  Spec.auto Tryz.call294 [.one (.a (fC x))] [] (.one (.a (fC (x + x)))) [] [(sR3Plus hx hx).e] [] 400 Tryz.func294 hmA (by kernel_rfl) (fun β => by kernel_rfl)
def sCRRound {b : GQ} {c : Rat} (hb : FitG b) (hc : Fit c) : Spec Tryz.prog :=
  Spec.auto Tryz.call127 [gS b, .one (.a (fC c))] [] (wtA (roundQ b c)) [] [(sR3Int 1 (by decide)).e, (sR4Conj b).e, (sR4Neg (gconj b)).e, (sR4Norm (hb.gsz.mono (by decide))).e, (sR3Minus (hb.gsz.norm.mono (by decide)) (hc.sz.mono (by decide))).e, (sCRMake (rd_sz hb hc)).e] [(1, 11)] 400 Tryz.func127 hmA (by kernel_rfl) (fun β => by kernel_rfl)
abbrev lineR (n z : GQ) : RQ := ⟨Rat.divInt 0 1, gconj n, -((gmul (gconj n) z).re + (gmul (gconj n) z).re)⟩
theorem line_eq (n z : GQ) : lineR n z = lineQ n z := by
  have h : (Rat.divInt (-2) 1 : Rat) = -2 := of_decide_eq_true (by kernel_rfl : decide ((Rat.divInt (-2) 1 : Rat) = -2) = true)
  rw [lineR, lineQ, h]
  congr 1
  grind
theorem lr_sz {n z : GQ} (hn : FitG n) (hz : FitG z) : RSz KC (lineR n z) := by rw [line_eq]; exact ln_sz hn hz
def sCRLine {n z : GQ} (hn : FitG n) (hz : FitG z) : Spec Tryz.prog :=
  (Spec.auto Tryz.call128 [gS n, gS z] [] (wtA (lineR n z)) [] [(sR4Conj n).e, (sR3Int 0 (by decide)).e, (sR4Times (hn.gsz.conj.mono (by decide)) (hz.gsz.mono (by decide))).e, (sCTwice ((hn.gsz.conj.mul hz.gsz).1.mono (by decide))).e, (sR3Neg ((gmul (gconj n) z).re + (gmul (gconj n) z).re)).e, (sCRMake (lr_sz hn hz)).e] [(2, 11)] 400 Tryz.func128 hmA (by kernel_rfl) (fun β => by kernel_rfl)).conv (wtA (lineQ n z)) (congrArg wtA (line_eq n z))
def sCFits (m : RQ) {b : Bool} (hb : b = true ↔ FitC m) : Spec Tryz.prog :=
  ⟨370, Tryz.call370, [.one (.a (cC m))], [], tB' b, [], fun β w hh => by
    by_cases h1 : Fit m.a
    · by_cases h2 : FitG m.b
      · have h3 : b = true ↔ Fit m.c := hb.trans ⟨fun h => h.2.2, fun h => ⟨h1, h2, h⟩⟩
        cases b <;> exact spec_auto (evs := [eFFit (iff_true_of h1), (sR4Fits m.b (iff_true_of h2)).e, eFFit h3]) (Ns := []) (m := 400) Tryz.func370 hmA (fun β => by kernel_rfl) (by kernel_rfl) β w hh
      · obtain rfl := eq_false_of hb fun h => h2 h.2.1
        exact spec_auto (evs := [eFFit (iff_true_of h1), (sR4Fits m.b (iff_false_of h2)).e]) (Ns := []) (m := 400) Tryz.func370 hmA (fun β => by kernel_rfl) (by kernel_rfl) β w hh
    · obtain rfl := eq_false_of hb fun h => h1 h.1
      exact spec_auto (evs := [eFFit (iff_false_of h1)]) (Ns := []) (m := 400) Tryz.func370 hmA (fun β => by kernel_rfl) (by kernel_rfl) β w hh, by kernel_rfl⟩
noncomputable def sCTold (m : RQ) : Spec Tryz.prog :=
  ⟨290, Tryz.call290, [.one (.a (cC m))], [], ciA m, [], fun β w hh => by
    by_cases h : FitC m
    · rw [ciA, (ci_fit h).1, (ci_fit h).2]
      exact spec_auto (evs := [(sCFits m (iff_true_of h)).e]) (Ns := []) (m := 400) Tryz.func290 hmA (fun β => by kernel_rfl) (by kernel_rfl) β w hh
    · rw [ciA, (ci_not h).1, (ci_not h).2]
      exact spec_auto (evs := [(sCFits m (iff_false_of h)).e]) (Ns := []) (m := 400) Tryz.func290 hmA (fun β => by kernel_rfl) (by kernel_rfl) β w hh, by kernel_rfl⟩
def sNum11 (k : Int) : Spec Tryz.prog := Spec.auto Tryz.call118 [.one (nI' k)] [] (.one (nI' k)) [] [] [] 400 Tryz.func118 hmA (by kernel_rfl) (fun β => by kernel_rfl)
noncomputable def sIs11 (r : RQ) : Spec Tryz.prog :=
  ⟨120, Tryz.call120, [.one (.a (mdC r)), .one (nI' (mdK r)), .one (.a (wtC r)), .one (nI' (wtK r))], [], tB' true, [], fun β w hh => by
    cases hp : decide ((rpow r).num.sign ≤ 0) with
    | true =>
      rw [(wt_no hp).1, (wt_no hp).2, (md_no hp).1, (md_no hp).2]
      exact spec_auto (evs := [eqC1 r40 r40 r40 r40, (sNum11 210).e]) (Ns := []) (m := 400) Tryz.func120 hmA (fun β => by kernel_rfl) (by kernel_rfl) β w hh
    | false =>
      rw [(wt_yes hp).1, (wt_yes hp).2, (md_yes hp).1, (md_yes hp).2]
      exact spec_auto (evs := [(sCTold (rone r)).e, eqC1 (ciR (rone r) (rone r).a) (ciR (rone r) (rone r).b.re) (ciR (rone r) (rone r).b.im) (ciR (rone r) (rone r).c), (sNum11 (ciK (rone r))).e, .eqv 23 (.bool (ciK (rone r) == ciK (rone r))) (.bool true) (ieq_self _)]) (Ns := []) (m := 400) Tryz.func120 hmA (fun β => by kernel_rfl) (by kernel_rfl) β w hh, by kernel_rfl⟩
section
variable {a : Rat} {b : GQ} {c : Rat} (ha : Fit a) (hb : FitG b) (hc : Fit c)
noncomputable def sCMakeA : Spec Tryz.prog :=
  ⟨123, Tryz.call123, mkA a b c, [], mdA ⟨a, b, c⟩, [], fun β w hh => by
    cases hp : decide ((rpow ⟨a, b, c⟩).num.sign ≤ 0) with
    | true => rw [mdA, (md_no hp).1, (md_no hp).2]; exact (sCMake0 ha hb hc hp).ok β w hh
    | false => rw [mdA, (md_yes hp).1, (md_yes hp).2]; exact (sCMake ha hb hc hp).ok β w hh, by kernel_rfl⟩
noncomputable def sCRoundA : Spec Tryz.prog :=
  ⟨124, Tryz.call124, [gS b, .one (.a (fC c))], [], mdA (roundQ b c), [], fun β w hh => by
    cases hp : decide ((rpow (roundQ b c)).num.sign ≤ 0) with
    | true => rw [mdA, (md_no hp).1, (md_no hp).2]; exact (sCRound0 hb hc hp).ok β w hh
    | false => rw [mdA, (md_yes hp).1, (md_yes hp).2]; exact (sCRound hb hc hp).ok β w hh, by kernel_rfl⟩
end
section
variable {n z : GQ} (hn : FitG n) (hz : FitG z)
noncomputable def sCLineA : Spec Tryz.prog :=
  ⟨125, Tryz.call125, [gS n, gS z], [], mdA (lineQ n z), [], fun β w hh => by
    cases hp : decide ((rpow (lineQ n z)).num.sign ≤ 0) with
    | true => rw [mdA, (md_no hp).1, (md_no hp).2]; exact (sCLine0 hn hz hp).ok β w hh
    | false => rw [mdA, (md_yes hp).1, (md_yes hp).2]; exact (sCLine hn hz hp).ok β w hh, by kernel_rfl⟩
end
inductive Fn where
  | ok (x : Rat) (h : Fit x)
  | no (f : Fr) (h : f.a.B = false)
def Fn.fr : Fn → Fr
  | .ok x h => frX x h
  | .no f _ => f
def Fn.r (a : Fn) : R4 := a.fr.r
def Fn.B : Fn → Bool
  | .ok .. => true
  | .no .. => false
theorem fn_of (x : R4) (h : x.s.size ≤ maxLen ∧ x.t.size ≤ maxLen) : ∃ a : Fn, a.r = x := by
  obtain ⟨⟨r, f, e⟩, rfl⟩ := fr_of x h
  cases f with
  | ok x hx => exact ⟨.ok x hx, rL_inj e⟩
  | no b c s t hn hs ht => exact ⟨.no ⟨r, .no b c s t hn hs ht, e⟩ rfl, rfl⟩
def sRatFn (f : Fr) (h : f.a.B = false) : Spec Tryz.prog :=
  ⟨292, Tryz.call292, [.one (.a (rL f.r))], [], .one (.c (.b (.v (.pointer none)))), [], fun β w hh => by
    obtain ⟨r, a, e⟩ := f
    cases a with
    | ok => cases h
    | no b c s t hn hs ht =>
      dsimp only
      rw [← e]
      exact (sRatNo hn).ok β w hh, by kernel_rfl⟩
def ratFn : Fn → Spec Tryz.prog
  | .ok _ h => sRatIn h
  | .no f h => sRatFn f h
def ofGn : Gn → Spec Tryz.prog
  | .ok z h => ofG h
  | .no g h => sOfW g.a g.b (r := false) h
abbrev zA : SV := .tup [.a c0C, nI' 2]
noncomputable def sCMakeNo (a : Fn) (b : Gn) (c : Fn) (h : (a.B && (b.B && c.B)) = false) : Spec Tryz.prog :=
  ⟨123, Tryz.call123, [.one (.a (rL a.r)), .one (.a (rL b.x ++ rL b.y)), .one (.a (rL c.r))], [], zA, [], fun β w hh => by
    cases b with
    | no g hg => cases a with
      | ok x hx => cases c with
        | ok y hy => exact spec_auto (evs := [(sOfW g.a g.b (r := false) hg).e, (ratFn (.ok x hx)).e, (ratFn (.ok y hy)).e]) (Ns := [(2, 6)]) (m := 400) Tryz.func123 hmA (fun β => by kernel_rfl) (by kernel_rfl) β w hh
        | no k hk => exact spec_auto (evs := [(sOfW g.a g.b (r := false) hg).e, (ratFn (.ok x hx)).e, (ratFn (.no k hk)).e]) (Ns := [(2, 6)]) (m := 400) Tryz.func123 hmA (fun β => by kernel_rfl) (by kernel_rfl) β w hh
      | no f hf => cases c with
        | ok y hy => exact spec_auto (evs := [(sOfW g.a g.b (r := false) hg).e, (ratFn (.no f hf)).e, (ratFn (.ok y hy)).e]) (Ns := [(2, 6)]) (m := 400) Tryz.func123 hmA (fun β => by kernel_rfl) (by kernel_rfl) β w hh
        | no k hk => exact spec_auto (evs := [(sOfW g.a g.b (r := false) hg).e, (ratFn (.no f hf)).e, (ratFn (.no k hk)).e]) (Ns := [(2, 6)]) (m := 400) Tryz.func123 hmA (fun β => by kernel_rfl) (by kernel_rfl) β w hh
    | ok z hz => cases a with
      | no f hf => cases c with
        | ok y hy => exact spec_auto (evs := [(ofG hz).e, (sRatFn f hf).e, (ratFn (.ok y hy)).e]) (Ns := [(2, 6)]) (m := 400) Tryz.func123 hmA (fun β => by kernel_rfl) (by kernel_rfl) β w hh
        | no k hk => exact spec_auto (evs := [(ofG hz).e, (sRatFn f hf).e, (ratFn (.no k hk)).e]) (Ns := [(2, 6)]) (m := 400) Tryz.func123 hmA (fun β => by kernel_rfl) (by kernel_rfl) β w hh
      | ok x hx => cases c with
        | ok => cases h
        | no f hf => exact spec_auto (evs := [(ofG hz).e, (sRatIn hx).e, (sRatFn f hf).e, dEq x]) (Ns := [(2, 6)]) (m := 400) Tryz.func123 hmA (fun β => by kernel_rfl) (by kernel_rfl) β w hh, by kernel_rfl⟩
noncomputable def sCRoundNo (b : Gn) (c : Fn) (h : (b.B && c.B) = false) : Spec Tryz.prog :=
  ⟨124, Tryz.call124, [.one (.a (rL b.x ++ rL b.y)), .one (.a (rL c.r))], [], zA, [], fun β w hh => by
    cases b with
    | no g hg => cases c with
      | ok y hy => exact spec_auto (evs := [(sOfW g.a g.b (r := false) hg).e, (ratFn (.ok y hy)).e]) (Ns := [(5, 13)]) (m := 400) Tryz.func124 hmA (fun β => by kernel_rfl) (by kernel_rfl) β w hh
      | no k hk => exact spec_auto (evs := [(sOfW g.a g.b (r := false) hg).e, (ratFn (.no k hk)).e]) (Ns := [(5, 13)]) (m := 400) Tryz.func124 hmA (fun β => by kernel_rfl) (by kernel_rfl) β w hh
    | ok z hz => cases c with
      | ok => cases h
      | no f hf => exact spec_auto (evs := [(ofG hz).e, (sRatFn f hf).e]) (Ns := [(5, 13)]) (m := 400) Tryz.func124 hmA (fun β => by kernel_rfl) (by kernel_rfl) β w hh, by kernel_rfl⟩
noncomputable def sCLineNo (b c : Gn) (h : (b.B && c.B) = false) : Spec Tryz.prog :=
  ⟨125, Tryz.call125, [.one (.a (rL b.x ++ rL b.y)), .one (.a (rL c.x ++ rL c.y))], [], zA, [], fun β w hh => by
    cases b with
    | no g hg => cases c with
      | ok y hy => exact spec_auto (evs := [(sOfW g.a g.b (r := false) hg).e, (ofGn (.ok y hy)).e]) (Ns := [(5, 10)]) (m := 400) Tryz.func125 hmA (fun β => by kernel_rfl) (by kernel_rfl) β w hh
      | no k hk => exact spec_auto (evs := [(sOfW g.a g.b (r := false) hg).e, (ofGn (.no k hk)).e]) (Ns := [(5, 10)]) (m := 400) Tryz.func125 hmA (fun β => by kernel_rfl) (by kernel_rfl) β w hh
    | ok z hz => cases c with
      | ok => cases h
      | no g hg => exact spec_auto (evs := [(ofG hz).e, (sOfW g.a g.b (r := false) hg).e]) (Ns := [(5, 10)]) (m := 400) Tryz.func125 hmA (fun β => by kernel_rfl) (by kernel_rfl) β w hh, by kernel_rfl⟩
end Go.Proofs.YtfnmclgicjmapaaGreat.Y
end
section
namespace Go.Proofs.YtfnmclgicjmapaaGreat.Y
open Go Go.RowKit
set_option maxRecDepth 100000
abbrev z20 : GQ := gint 2 0
end Go.Proofs.YtfnmclgicjmapaaGreat.Y
end
section
namespace Go.Proofs.YtfnmclgicjmapaaGreat.Y
open Go Go.RowKit
set_option maxRecDepth 100000
def alOf (ob : List Ob) (j : Nat) : Nat := match ob[j]? with
  | some (.al i _) => i
  | _ => 0
theorem one_at {g : Pl} {b : Nat} (h : g.one) (k : At1 g b) : b = g.b := ((k.2 g.b).1 ((h.1 _).2 rfl)).symm
end Go.Proofs.YtfnmclgicjmapaaGreat.Y
end
section
namespace Go.Proofs.YtfnmclgicjmapaaGreat
open Go.RowKit
def pv (g : Nat) : Value := .pointer (some ⟨g, 0, none⟩)
theorem ptr_info : (Tryz.prog.info? 162).map (fun i => (i.zero, i.size, i.bytes)) = some (some (.pointer none), 1, 8) := by kernel_rfl
def PRow (w : World) (base : Nat) (v : Value) (zs : List Nat) : Prop := w.ownsRow base 162 1 v zs.length (zs.map pv)
theorem PRow.nil (w : World) (base : Nat) : PRow w base (.slice none 0 0) [] := by simpa [PRow] using World.ownsRow_nil w base 162 1
theorem PRow.alloc {w : World} {base : Nat} {v : Value} {zs : List Nat} (h : PRow w base v zs) (o : Obj) : PRow (w.alloc o) base v zs := World.ownsRow.alloc h o
theorem PRow.open_ {w : World} {base : Nat} {v : Value} {zs : List Nat} (h : PRow w base v zs) (h0 : 0 < zs.length) :
    ∃ g cap, v = .slice (some ⟨g, 0, none⟩) zs.length cap ∧ base ≤ g ∧ g < w.heap.size ∧ ∀ i, i < zs.length → w.cell? ⟨g, i, none⟩ = some (pv (zs.getD i 0)) := by
  obtain ⟨hlen, h2⟩ := h
  rcases h2 with ⟨rfl, h1⟩ | ⟨g, cap, cur, rfl, hg, hh, hc, _, hcs, ht⟩
  · omega
  · refine ⟨g, cap, rfl, hg, heap_some_lt hh, fun i hi => ?_⟩
    have h3 : (cur.toList.take (zs.length * 1))[i]? = (zs.map pv)[i]? := by rw [ht]
    rw [List.getElem?_take_of_lt (by omega), List.getElem?_map, List.getElem?_eq_getElem hi] at h3
    rw [cell_of_row _ _ _ _ _ _ hh, ← Array.getElem?_toList, h3, getD_in hi]
    rfl
theorem wpList_append_ptr {ops : Array Oper} {rest : List Oper} {o : Oper} {a : Act} {w : World} {Q : Exit → Act → World → Prop} (hg : o.guard = none) (s x : Operand)
    (ho : o.op = .call { callee := .builtin .append, args := #[s, x], argTypes := #[373, 373] })
    (base : Nat) (v : Value) (zs : List Nat) (hs : a.eval s = v) (hown : PRow w base v zs) (ad : Addr) (c : Nat) (y : Nat) (hx : a.eval x = .slice (some ad) 1 c) (hcell : w.cell? ad = some (pv y))
    (hlen : zs.length ≤ 17179869184) (hbase : base ≤ w.heap.size)
    (hK : ∀ v' w', PRow w' base v' (zs ++ [y]) → Below base w w' → w.grownBy w' v.ownBlock → wpList Tryz.prog ops Q rest (a.put o.dst v') w') : wpList Tryz.prog ops Q (o :: rest) a w := by
  obtain ⟨i0, hi, hz0, hz1, hz2⟩ := info_parts ptr_info
  refine wpList_append_own w hg s x 373 ho base 162 i0 (.pointer none) 1 8 Tryz.underlying373 hi hz0 hz1 hz2 rfl (by decide) v zs.length (zs.map pv) hs hown ad 1 c [pv y] hx rfl ?_ ?_ (by simp only [maxLen]; omega) (by omega) hbase ?_
  · intro j u hj
    cases j with
    | zero =>
      simp at hj
      subst hj
      simpa [Addr.add] using hcell
    | succ j => simp at hj
  · intro u hu
    simp at hu
    subst hu
    rfl
  · intro v' w' h1 h2 _
    refine hK v' w' (by simpa [PRow] using h1) ((Below.refl _ _).grown h2 hbase fun k hk => ?_) h2
    · rcases hown.2 with ⟨rfl, _⟩ | ⟨g, cap, cur, rfl, hb, _⟩
      · simp [Value.ownBlock] at hk
      · simp [Value.ownBlock] at hk
        omega
def OfPost (b : Bool) (s : ByteArray) (w : World) (e : Ending) (w' : World) : Prop :=
  ((WholeOk b s ∧ ∃ h cap p, e = .returned (.tuple #[.slice (some ⟨h, 0, none⟩) 1 cap, .bool true]) ∧ w'.cell? ⟨h, 0, none⟩ = some (.pointer (some ⟨p, 0, none⟩)) ∧ IntAt w' p 0 (numOf b s)) ∨
    (¬ WholeOk b s ∧ e = .returned (.tuple #[.slice none 0 0, .bool false]))) ∧ Below w.heap.size w w'
set_option maxHeartbeats 1600000 in
set_option maxRecDepth 100000 in
theorem of_one {w0 : World} {a cap : Nat} (b : Bool) (s : ByteArray) (hs : s.size ≤ 4294967296) {T : TypeId} (ha : BoxAt w0 a #[.bool b, .string s] T) :
    Calls Tryz.prog 377 #[.slice (some ⟨a, 0, none⟩) 1 cap] w0 (OfPost b s w0) := by
  have hcv := fun (w : World) => run_bytes_of_string (P := Tryz.prog) w 9 315 5 s Tryz.underlying9 Tryz.underlying315 Tryz.underlying5
  have HS := Lib.hid hs
  have HS2 : Hid (s.size ≤ maxLen) := by unfold Hid maxLen; omega
  have HX := Lib.hid ha
  have hc0 := ha.cell 0 (.bool b) rfl
  have hc1 := ha.cell 1 (.string s) rfl
  clear hs ha
  go_enter Tryz.func377, Tryz.ntmps377
  go_wp2
  go_loopw [4, 10] (fun v i wr => Below w0.heap.size w0 wr ∧ ((v = .slice none 0 0 ∧ i = .int .i64 0) ∨ (WholeOk b s ∧ i = .int .i64 1 ∧ ∃ h cap p, v = .slice (some ⟨h, 0, none⟩) 1 cap ∧ wr.cell? ⟨h, 0, none⟩ = some (.pointer (some ⟨p, 0, none⟩)) ∧ IntAt wr p 0 (numOf b s)))) (fun _ i _ => 1 - (intOf i).toNat)
  case atStart => exact ⟨Below.refl _ _, .inl ⟨rfl, rfl⟩⟩
  case round =>
    obtain ⟨hb, h | h⟩ := hrel
    · obtain ⟨rfl, rfl⟩ := h
      have HBR := Lib.hid hb
      have hd0 := (HX.out.on hb).cell 0 (.bool b) rfl
      have hd1 := (HX.out.on hb).cell 1 (.string s) rfl
      have HN := Lib.hid (BoxAt.new wr #[.bool b, .string s] 23)
      have HBN := Lib.hid (below_new wr (.cells #[.bool b, .string s] 23))
      clear hb hc0 hc1
      go_wp2_with fail
      refine (Check_any b s HS2.out).mono ?_
      rintro e w1 ⟨k, rfl, hk, hb⟩
      have HB1 := Lib.hid ((HBR.out.trans (HBN.out.mono HBR.out.size)).trans (hb.mono (Nat.le_trans HBR.out.size HBN.out.size)))
      have HN1 := Lib.hid (HN.out.on hb)
      have hl1 : wr.heap.size < w1.heap.size := HN1.out.lt
      clear hb hd0 hd1
      by_cases ho : WholeOk b s
      · obtain rfl : k = 0 := hk.elim (fun h => h.1) (fun h => absurd ho h.2)
        have HO := Lib.hid ho
        have hn0 := HN1.out.cell 0 (.bool b) rfl
        have hn1 := HN1.out.cell 1 (.string s) rfl
        clear hk ho
        go_wp2_with fail
        generalize hW2 : w1.alloc (.cells #[.bool false, .slice none 0 0] 169) = W2
        have hi : IntAt W2 w1.heap.size 0 0 := by rw [← hW2]; exact IntAt.new _
        have hx : BoxAt W2 wr.heap.size #[.bool b, .string s] 23 := by rw [← hW2]; exact HN1.out.on (below_new _ _)
        have hb : Below w1.heap.size w1 W2 := by rw [← hW2]; exact below_new _ _
        have hsz : w1.heap.size + 1 = W2.heap.size := by rw [← hW2]; simp
        have hby := byt_row (W := W2) s (grownCap W2 s.size 0 5) (grownCap W2 s.size 0 5) (w1.heap.size + 1) ((bytesRow s (grownCap W2 s.size 0 5)).size, (bytesRow s (grownCap W2 s.size 0 5)).size + 1) hsz
        have hbl := below_row W2 (bytesRow s (grownCap W2 s.size 0 5)) 5 ((bytesRow s (grownCap W2 s.size 0 5)).size, (bytesRow s (grownCap W2 s.size 0 5)).size + 1)
        clear hW2
        generalize grownCap W2 s.size 0 5 = c at hby hbl ⊢
        generalize (W2.alloc (.cells (bytesRow s c) 5 ((bytesRow s c).size, (bytesRow s c).size + 1))).drew = W3 at hby hbl ⊢
        refine (SetBytes_any (hi.on hbl).slot hby HS.out).mono ?_
        rintro e w4 ⟨rfl, h1, h2⟩
        rw [List.reverse_reverse] at h1
        have HT := Lib.hid (h2.below (B := w1.heap.size) (Nat.le_refl _) (by have := hbl.size; omega))
        have HB4 := Lib.hid ((hb.trans (hbl.mono hb.size)).trans HT.out)
        have hd0 : w4.cell? ⟨wr.heap.size, 0, none⟩ = some (.bool b) := by rw [HB4.out.cell (by simp; omega)]; exact HN1.out.cell 0 _ rfl
        have HI := Lib.hid h1
        have HBB := Lib.hid (HB1.out.trans (HB4.out.mono HB1.out.size))
        clear h1 h2 hi hx hb hsz hby hbl hn0 hn1
        cases b
        · have HV : Hid (IntAt w4 w1.heap.size 0 (numOf false s)) := by
            have := HI.out
            simpa [Hid, numOf, sg, num] using this
          go_wp2_with (at_builtin; refine wpList_append_ptr rfl (.tmp 32) (.tmp 34) rfl w0.heap.size _ [] rfl ((PRow.nil _ _).alloc _) ⟨w4.heap.size, 0, none⟩ 1 w1.heap.size rfl (cell_new0 _ _ _) ?_ ?_ ?_)
          · exact Nat.zero_le _
          · have := HBB.out.size; simp; omega
          intro v' w6 hrow hb6 hgr
          obtain ⟨h, cap2, rfl, _, hlt, hcc⟩ := hrow.open_ (by simp)
          have HC := Lib.hid (hcc 0 (by simp))
          have HB6 := Lib.hid ((HBB.out.trans ((below_new w4 (.cells #[.pointer (some ⟨w1.heap.size, 0, none⟩)] 162)).mono HBB.out.size)).trans hb6)
          have HV6 := Lib.hid ((HV.out.on (below_new w4 (.cells #[.pointer (some ⟨w1.heap.size, 0, none⟩)] 162))).on (Below.grown (Below.refl _ _) hgr (Nat.le_refl _) (fun k hk => by simp [Value.ownBlock] at hk)))
          clear hrow hb6 hgr hcc
          go_wp2
          go_roundw
          case rel => exact ⟨HB6.out, .inr ⟨HO.out, by go_num, h, cap2, _, rfl, HC.out, HV6.out⟩⟩
          case measure => simp [intOf]
        · go_wp2_with fail
          refine (neg_any HI.out.slot HI.out).mono ?_
          rintro e w5 ⟨rfl, h1, h2⟩
          have HV : Hid (IntAt w5 w1.heap.size 0 (numOf true s)) := by
            have := h1
            simpa [Hid, numOf, sg, num] using this
          have HB5 := Lib.hid (HBB.out.trans (h2.below (B := w0.heap.size) (by have := HB1.out.size; omega) HBB.out.size))
          clear h1 h2 hd0
          go_wp2_with (at_builtin; refine wpList_append_ptr rfl (.tmp 32) (.tmp 34) rfl w0.heap.size _ [] rfl ((PRow.nil _ _).alloc _) ⟨w5.heap.size, 0, none⟩ 1 w1.heap.size rfl (cell_new0 _ _ _) ?_ ?_ ?_)
          · exact Nat.zero_le _
          · have := HB5.out.size; simp; omega
          intro v' w6 hrow hb6 hgr
          obtain ⟨h, cap2, rfl, _, hlt, hcc⟩ := hrow.open_ (by simp)
          have HC := Lib.hid (hcc 0 (by simp))
          have HB6 := Lib.hid ((HB5.out.trans ((below_new w5 (.cells #[.pointer (some ⟨w1.heap.size, 0, none⟩)] 162)).mono HB5.out.size)).trans hb6)
          have HV6 := Lib.hid ((HV.out.on (below_new w5 (.cells #[.pointer (some ⟨w1.heap.size, 0, none⟩)] 162))).on (Below.grown (Below.refl _ _) hgr (Nat.le_refl _) (fun k hk => by simp [Value.ownBlock] at hk)))
          clear hrow hb6 hgr hcc
          go_wp2
          go_roundw
          case rel => exact ⟨HB6.out, .inr ⟨HO.out, by go_num, h, cap2, _, rfl, HC.out, HV6.out⟩⟩
          case measure => simp [intOf]
      · obtain rfl : k = 2 := hk.elim (fun h => absurd h.2 ho) (fun h => h.1)
        have HO := Lib.hid ho
        clear hk ho
        go_wp2
        go_ret2
        exact ⟨.inr ⟨HO.out, rfl⟩, HB1.out⟩
    · obtain ⟨ho, rfl, h, cap2, p, rfl, hc, hi⟩ := h
      have HO := Lib.hid ho
      have HC := Lib.hid hc
      have HI := Lib.hid hi
      have HB := Lib.hid hb
      clear ho hc hi hb hc0 hc1
      go_wp2
      go_ret2
      exact ⟨.inl ⟨HO.out, h, cap2, p, rfl, HC.out, HI.out⟩, HB.out⟩
end Go.Proofs.YtfnmclgicjmapaaGreat
end
section
namespace Go.Proofs.YtfnmclgicjmapaaGreat
open Go.RowKit
theorem fracV_num {b c : Bool} {s t : ByteArray} {x : Rat} (h : FracParts b s c t x) : WholeOk b s ∧ numOf b s = x.num := by
  have h1 := (isFrac_parts h.isFrac).1
  obtain ⟨rfl, rfl, _, _⟩ := agg4 h.val
  exact ⟨h1, numOf_mag _⟩
theorem fracV_inj {x y : Rat} (h : fracV x = fracV y) : x = y := by
  obtain ⟨h1, h2, _, h4⟩ := agg4 h
  have e1 : x.num = y.num := sg_inj h1 (mag_inj h2)
  have e2 : x.den = y.den := mag_inj h4
  exact Rat.ext e1 e2
end Go.Proofs.YtfnmclgicjmapaaGreat
end
section
namespace Go.Proofs.YtfnmclgicjmapaaGreat
open Go.RowKit
theorem sz_i64 {n : Int} (h : -9223372036854775808 ≤ n ∧ n ≤ 9223372036854775807) : sz n ≤ 8 := by
  rw [sz_le]
  have : n.natAbs ≤ 9223372036854775808 := by omega
  exact Nat.lt_of_le_of_lt this (by decide)
theorem okn_i64 {n : Int} (h : -9223372036854775808 ≤ n ∧ n ≤ 9223372036854775807) : Okn n := okn_size (Nat.le_trans (sz_i64 h) (by decide))
end Go.Proofs.YtfnmclgicjmapaaGreat
end
section
namespace Go.Proofs.YtfnmclgicjmapaaGreat
open Go.RowKit
set_option maxHeartbeats 1600000 in
set_option maxRecDepth 100000 in
theorem WText_any {w0 : World} (b : Bool) (s : ByteArray) (hs : s.size ≤ 4294967296) :
    Calls Tryz.prog 302 #[.agg #[.bool b, .string s]] w0 fun e w' => ∃ u k, e = .returned (.tuple #[.string u, .int .i64 k]) ∧ (WholeOk b s ∧ u = textN (numOf b s) ∧ k = 0 ∨ ¬ WholeOk b s ∧ u = ⟨#[]⟩ ∧ k = 2) ∧ Below w0.heap.size w0 w' := by
  have HS := Lib.hid hs
  have h1 := below_new w0 (.cells #[.bool b, .string s] 23)
  have h2 := below_new (w0.alloc (.cells #[.bool b, .string s] 23)) (.cells #[.bool b, .string s] 23)
  have HB := Lib.hid (h1.trans (h2.mono h1.size))
  have HX := Lib.hid (BoxAt.new_at (w := w0.alloc (.cells #[.bool b, .string s] 23)) #[.bool b, .string s] 23 (size_alloc w0 _).symm)
  clear hs h1 h2
  go_enter Tryz.func302, Tryz.ntmps302
  go_wp2_with fail
  refine (of_one b s HS.out HX.out).mono ?_
  rintro e w1 ⟨h, hb⟩
  have HB1 := Lib.hid (HB.out.trans (hb.mono HB.out.size))
  clear hb
  rcases h with ⟨ho, g, cap, p, rfl, hc, hi⟩ | ⟨ho, rfl⟩
  · have HO := Lib.hid ho
    have HI := Lib.hid hi
    have KT : Hid (Okt (numOf b s)) := by
      have h3 : (mag (numOf b s).natAbs).size ≤ 16384 := by rw [(numOf_ok ho).2.1]; exact ho.2
      have := wl_size h3
      unfold Hid Okt
      omega
    clear ho hi
    go_wp2_with fail
    refine (String_any HI.out KT.out).mono ?_
    rintro e w2 ⟨rfl, hb⟩
    have HB2 := Lib.hid (HB1.out.trans (hb.mono HB1.out.size))
    clear hb hc
    go_wp2
    go_ret2
    exact ⟨_, _, rfl, .inl ⟨HO.out, rfl, rfl⟩, HB2.out⟩
  · have HO := Lib.hid ho
    clear ho
    go_wp2
    go_ret2
    exact ⟨_, _, rfl, .inr ⟨HO.out, rfl, rfl⟩, HB1.out⟩
theorem textN_len (n : Int) : (textN n).size ≤ 32 * (dig n.natAbs).length + 1 := by
  rw [textN_size]
  unfold txt
  have := dd_len_words n.natAbs
  split
  · simp
  · rw [List.length_reverse, List.length_append]
    split <;> simp <;> omega
theorem textN_small {n : Int} (h : (mag n.natAbs).size ≤ 16384) : (textN n).size ≤ 200000 := by
  have h1 := textN_len n
  have h2 := wl_size h
  omega
def textQ (x : Rat) : ByteArray := if x.den = 1 then textN x.num else textN x.num ++ (⟨#[47]⟩ ++ textN (x.den : Int))
def TextAns (va : Value) (u : ByteArray) (k : Int) : Prop := (∃ x, Fit x ∧ va = fracV x ∧ u = textQ x ∧ k = 0) ∨ (¬ IsFrac va ∧ u = ⟨#[]⟩ ∧ k = 2)
theorem parts_den {b c : Bool} {s t : ByteArray} {x : Rat} (h : FracParts b s c t x) : c = false ∧ t = mag x.den ∧ WholeOk false t ∧ numOf false t = (x.den : Int) := by
  have h2 := (isFrac_parts h.isFrac).2.1
  obtain ⟨rfl, rfl, rfl, rfl⟩ := agg4 h.val
  refine ⟨rfl, rfl, h2, ?_⟩
  have := numOf_mag (x.den : Int)
  rwa [show decide ((x.den : Int) < 0) = false by simp, Int.natAbs_natCast] at this
set_option maxHeartbeats 3200000 in
set_option maxRecDepth 100000 in
theorem FText_any {w0 : World} (b c : Bool) (s t : ByteArray) (hs : s.size ≤ maxLen) (ht : t.size ≤ maxLen) :
    Calls Tryz.prog 144 #[.agg #[.bool b, .string s, .bool c, .string t]] w0 fun e w' => ∃ u k, e = .returned (.tuple #[.string u, .int .i64 k]) ∧ TextAns (.agg #[.bool b, .string s, .bool c, .string t]) u k ∧ Below w0.heap.size w0 w' := by
  have HS := Lib.hid hs
  have HT := Lib.hid ht
  have HW0 := Lib.hid (below_new w0 (.cells #[.bool b, .string s, .bool c, .string t] 25))
  have HX0 := Lib.hid (BoxAt.new w0 #[.bool b, .string s, .bool c, .string t] 25)
  clear hs ht
  go_enter Tryz.func144, Tryz.ntmps144
  go_wp2_with fail
  refine (May_any b c s t HS.out HT.out).mono ?_
  rintro e w1 ⟨r, rfl, hr, hb⟩
  have HX1 := Lib.hid (HX0.out.on hb)
  have HW1 := Lib.hid (HW0.out.trans (hb.mono HW0.out.size))
  have HR := Lib.hid hr
  clear hb hr
  cases r
  · go_wp2
    go_ret2
    exact ⟨_, _, rfl, .inr ⟨fun h => Bool.noConfusion (HR.out.2 h), rfl, rfl⟩, HW1.out⟩
  obtain ⟨x, hx⟩ := parts_of (by first | exact HR.out.1 rfl | exact HR.out.1 trivial)
  have HX := Lib.hid hx
  obtain ⟨rfl, ht2, ho2, hn2⟩ := parts_den hx
  have HT2 := Lib.hid ht2
  have HO2 := Lib.hid ho2
  have HN2 := Lib.hid hn2
  have hc0 := HX1.out.cell 0 (.bool b) rfl
  have hc1 := HX1.out.cell 1 (.string s) rfl
  clear hx HR ht2 ho2 hn2
  go_wp2_with fail
  refine (WText_any b s HX.out.hs).mono ?_
  rintro e w2 ⟨un, k, rfl, hu, hb⟩
  have HU : Hid (un = textN x.num) := by
    obtain ⟨h1, h2⟩ := fracV_num HX.out
    rcases hu with h | h
    · rw [← h2]; exact h.2.1
    · exact absurd h1 h.1
  have HX2 := Lib.hid (HX1.out.on hb)
  have HW2 := Lib.hid (HW1.out.trans (hb.mono HW1.out.size))
  clear hu hb hc0 hc1
  go_wp2
  refine wp_region_acts 4 (fun w' => Below w0.heap.size w0 w' ∧ BoxAt w' w0.heap.size #[.bool b, .string s, .bool false, .string t] 25) (fun w w' => Below w.heap.size w w') (fun i w v => match i with
      | 0 => v = .pointer (some ⟨w0.heap.size, 2, none⟩)
      | 1 => v = .agg #[.bool false, .string t]
      | 2 => ∃ g, v = .pointer (some ⟨g, 0, none⟩) ∧ IntAt w g 0 1
      | _ => ∃ s', v = .agg #[.bool false, .string s'] ∧ Hid (s' = mag 1)) (by kernel_rfl) (by kernel_rfl) (by kernel_rfl) ⟨HW2.out.drew, HX2.out⟩ (fun _ _ => (Below.refl _ _)) ?_ ⟨?_, ?_, ?_, ?_, trivial⟩ ?_
  · intro i w1 w2 v hC hC2 hE hV
    match i with
    | 0 => exact hV
    | 1 => exact hV
    | 2 => obtain ⟨g, e, h⟩ := hV; exact ⟨g, e, h.on hE⟩
    | _ + 3 => exact hV
  · intro a' w' hag hC hd K hK
    have e1 : a'.tmps.getD 1 undef = .pointer (some ⟨w0.heap.size, 0, none⟩) := hag 1 rfl
    go_step
    exact hK _ _ hC ((Below.refl _ _)) rfl
  · intro a' w' hag hC hd K hK
    have e17 : a'.tmps.getD 17 undef = .pointer (some ⟨w0.heap.size, 2, none⟩) := hd.1
    have hc0 := hC.2.cell 2 (.bool false) rfl
    have hc1 := hC.2.cell 3 (.string t) rfl
    have HK := Lib.hid (hK (.agg #[.bool false, .string t]) _ hC (Below.refl _ _) rfl)
    clear hK hC
    go_step
    exact HK.out
  · intro a' w' hag hC hd K hK
    go_step
    refine (NewInt_any (n := 1) (by decide)).mono ?_
    rintro e w2 ⟨g, rfl, hg, h1, h2⟩
    exact hK _ _ ⟨hC.1.trans (h2.mono hC.1.size), hC.2.on h2⟩ h2 ⟨_, rfl, h1⟩
  · intro a' w' hag hC hd K hK
    obtain ⟨g19, e19, h19⟩ := hd.1
    have e19 : a'.tmps.getD 19 undef = .pointer (some ⟨g19, 0, none⟩) := e19
    go_step
    refine (back_agg h19 (okn_i64 (by decide))).mono ?_
    rintro e w2 ⟨p, s', rfl, h1, h2, hb⟩
    have hp : p = false := by rw [h1.out]; rfl
    subst hp
    exact hK _ _ ⟨hC.1.trans (hb.mono hC.1.size), hC.2.on hb⟩ hb ⟨s', rfl, h2⟩
  · intro u w' hC hall
    obtain ⟨u0, u1, u2, u3, _⟩ := hall
    have u0 : u 0 = .pointer (some ⟨w0.heap.size, 2, none⟩) := u0
    have u1 : u 1 = .agg #[.bool false, .string t] := u1
    obtain ⟨s20, eu3, hs20⟩ := u3
    have u3 : u 3 = .agg #[.bool false, .string s20] := eu3
    simp only [fillR, List.take_succ_cons, List.take_zero, Act.put, List.setIfInBounds_toArray, List.set_cons_succ, List.set_cons_zero, Nat.zero_add, Nat.reduceAdd, u0, u1, u3]
    clear u0 u1 u3
    have HC := Lib.hid hC.1
    have HX3 := Lib.hid hC.2
    clear hC
    by_cases hd : t.toList = s20.toList
    · have HD : Hid (x.den = 1) := by
        have h1 := toList_inj.1 hd
        rw [HT2.out, hs20.out] at h1
        exact mag_inj h1
      go_wp2
      go_ret2
      exact ⟨_, _, rfl, .inl ⟨x, HX.out.fit, HX.out.val, by rw [textQ, if_pos HD.out]; exact HU.out, rfl⟩, HC.out⟩
    · have HD : Hid (¬ x.den = 1) := fun e => hd (by rw [HT2.out, hs20.out, e])
      have hc0 := HX3.out.cell 2 (.bool false) rfl
      have hc1 := HX3.out.cell 3 (.string t) rfl
      go_wp2_with fail
      refine (WText_any false t HX.out.ht).mono ?_
      rintro e w4 ⟨u2, k2, rfl, hu, hb⟩
      have HU2 : Hid (u2 = textN (x.den : Int)) := by
        rcases hu with h | h
        · rw [← HN2.out]; exact h.2.1
        · exact absurd HO2.out h.1
      have HB := Lib.hid (HC.out.trans (hb.mono HC.out.size))
      have hu1 : un.size ≤ 200000 := by rw [HU.out]; exact textN_small (Nat.le_trans HX.out.fit.1 (by decide))
      have hu2 : u2.size ≤ 200000 := by rw [HU2.out]; exact textN_small (by rw [Int.natAbs_natCast]; exact Nat.le_trans HX.out.fit.2 (by decide))
      have hu3 : ((⟨#[47]⟩ : ByteArray) ++ u2).size ≤ 200001 := by rw [ByteArray.size_append]; show 1 + u2.size ≤ _; omega
      clear hu hb hc0 hc1
      go_wp2
      go_ret2
      exact ⟨_, _, rfl, .inl ⟨x, HX.out.fit, HX.out.val, by rw [textQ, if_neg HD.out, ← HU.out, ← HU2.out], rfl⟩, HB.out⟩
end Go.Proofs.YtfnmclgicjmapaaGreat
end
section
namespace Go.Proofs.YtfnmclgicjmapaaGreat.Y
open Go Go.RowKit
set_option maxRecDepth 100000
def sFText {x : Rat} (h : Fit x) {u : ByteArray} (hu : textQ x = u) : Spec Tryz.prog :=
  ⟨144, Tryz.call144, [.one (.a (fC x))], [], .tup [.c (.b (.v (.string u))), nI' 0], [], fun β w hh => by
    refine (FText_any (decide (x.num < 0)) false (mag x.num.natAbs) (mag x.den) (Nat.le_trans h.1 (by decide)) (Nat.le_trans h.2 (by decide))).mono ?_
    rintro e w' ⟨v, k, rfl, ⟨y, _, hy, rfl, rfl⟩ | ⟨hn, _⟩, hb⟩
    · obtain rfl : x = y := fracV_inj hy
      rw [hu]
      exact ⟨[], (fun _ h => by cases h), rfl, trivial, hb⟩
    · exact absurd (fitF x h) hn, by kernel_rfl⟩
end Go.Proofs.YtfnmclgicjmapaaGreat.Y
end
section
namespace Go.Proofs.YtfnmclgicjmapaaGreat.Y
open Go Go.RowKit
set_option maxRecDepth 100000
def z4 : List Lf := [.b (.v (.bool false)), .b (.v (.slice none 0 0)), .b (.v (.bool false)), .b (.v (.slice none 0 0))]
theorem RatAt.zero {w : World} {b : Nat} (hb : w.heap[b]? = some (.cells #[.bool false, .slice none 0 0, .bool false, .slice none 0 0] 171 (0, 0))) : RatAt w b 0 0 := by
  refine ⟨⟨_, _, hb, by decide, by simp⟩, ⟨⟨_, _, hb, by decide, by simp⟩, ?_, .slice none 0 0, ?_, ?_⟩, 0, ⟨⟨_, _, hb, by decide, by simp⟩, ?_, .slice none 0 0, ?_, ?_⟩, .inr ⟨rfl, rfl⟩⟩
  · rw [cell_of_row _ _ _ _ _ _ hb]; rfl
  · rw [cell_of_row _ _ _ _ _ _ hb]; rfl
  · rw [show (0 : Rat).num = 0 from rfl, Int.natAbs_zero, dig_zero]; exact Words.nil _
  · rw [cell_of_row _ _ _ _ _ _ hb]; rfl
  · rw [cell_of_row _ _ _ _ _ _ hb]; rfl
  · rw [Int.natAbs_zero, dig_zero]; exact Words.nil _
theorem okr0 : Sz KB (0 : Rat) := sz_zero.mono (by decide)
def eSum0 {y : Rat} (i n k : Nat) (hy : Sz KB y) : Ev Tryz.prog := .refill 154 Tryz.call154 (fun β => #[.pointer (some ⟨(β i).b, 0, none⟩), .pointer (some ⟨(β i).b, 0, none⟩), .pointer ((β k).v 0)]) [(i, .box z4 171), (k, (ratT y).ob)] i i 4 n (ratT (0 + y))
  (fun β w h hji ho hs => by
    have hb : (Ob.box z4 171).holds β w (β i) := h (i, .box z4 171) (by simp)
    obtain ⟨b, hb2, kb⟩ := needP (x := y) (k := k) h (by simp)
    simp only [hb2.1]
    exact fillP ho (rAdd_any hs (RatAt.zero hb.2) kb (okr0.okR2 (by decide)) (hy.okR2 (by decide))))
def eSumP {x y : Rat} (i j n k : Nat) (hx : Sz KB x) (hy : Sz KB y) : Ev Tryz.prog := .refill 154 Tryz.call154 (fun β => #[.pointer (some ⟨(β i).b, 0, none⟩), .pointer (some ⟨(β i).b, 0, none⟩), .pointer ((β k).v 0)]) [(j, (ratT x).ob), (k, (ratT y).ob)] i j 4 n (ratT (x + y))
  (fun β w h hji ho hs => by
    obtain ⟨a, ha, ka⟩ := needP (x := x) (k := j) h (by simp)
    obtain ⟨b, hb, kb⟩ := needP (x := y) (k := k) h (by simp)
    have e := one_at ho (hji ▸ ha)
    subst e
    simp only [hb.1]
    exact fillP ho (rAdd_any hs ka kb (hx.okR2 (by decide)) (hy.okR2 (by decide))))
def eSumZ {x y : Rat} (i j n k : Nat) (hx : Sz KB x) (hy : Sz KB y) : Ev Tryz.prog := .refill 154 Tryz.call154 (fun β => #[.pointer ((β j).v 0), .pointer ((β j).v 0), .pointer ((β k).v 0)]) [(j, (ratT x).ob), (k, (ratT y).ob)] i j 4 n (ratT (x + y))
  (fun β w h hji ho hs => by
    obtain ⟨a, ha, ka⟩ := needP (x := x) (k := j) h (by simp)
    obtain ⟨b, hb, kb⟩ := needP (x := y) (k := k) h (by simp)
    have e := one_at ho (hji ▸ ha)
    subst e
    simp only [ha.1, hb.1]
    exact fillP ho (rAdd_any hs ka kb (hx.okR2 (by decide)) (hy.okR2 (by decide))))
def sum0 {y : Rat} (hy : Sz KB y) : Ev Tryz.prog := .dyn (fun o _ _ => isCallB o) fun _ xs ob => lit ob.length fun n => lit (ptOf (xs.getD 0 undefS)) fun i => lit (ptOf (xs.getD 2 undefS)) fun k => eSum0 i n k hy
def sumN {x y : Rat} (hx : Sz KB x) (hy : Sz KB y) : Ev Tryz.prog := .dyn (fun o _ _ => isCallB o) fun _ xs ob => lit ob.length fun n => lit (ptOf (xs.getD 2 undefS)) fun k => match xs.getD 0 undefS with
  | .one (.c (.b (.p i _))) => lit i fun i => lit ((findA i ob 0).getD 0) fun j => eSumP i j n k hx hy
  | .one (.c (.b (.z j _))) => lit j fun j => lit (alOf ob j) fun i => eSumZ i j n k hx hy
  | _ => .eqv 0 undef undef rfl
def roQ : Pt → Nat → Rat
  | .inf, 0 => Rat.divInt 1 1
  | .inf, _ => Rat.divInt 0 1
  | .fin z, 0 => gnorm z
  | .fin z, 1 => z.re
  | .fin z, 2 => z.im
  | .fin _, _ => Rat.divInt 1 1
abbrev roT (p : Pt) : List Thing := [ratT (roQ p 0), ratT (roQ p 1), ratT (roQ p 2), ratT (roQ p 3)]
def sRow {p : Pt} (hp : FitP p) : Spec Tryz.prog :=
  ⟨366, Tryz.call366, [pV 0 p], pM p, .one (.a [.b (.z 2 0), .b (.z 3 0), .b (.z 4 0), .b (.z 5 0)]), roT p, fun β w hh => by
    cases p with
    | inf => exact spec_auto (args := [pV 0 .inf]) (obs := pM .inf) (res := .one (.a [.b (.z 2 0), .b (.z 3 0), .b (.z 4 0), .b (.z 5 0)])) (news := roT .inf) (evs := [nNew 1 1 (by decide) (by decide) (by decide), nZero, nZero, nZero]) (Ns := []) (m := 400) Tryz.func366 hmA (fun β => by kernel_rfl) (by kernel_rfl) β w hh
    | fin z => exact spec_auto (args := [pV 0 (.fin z)]) (obs := pM (.fin z)) (res := .one (.a [.b (.z 2 0), .b (.z 3 0), .b (.z 4 0), .b (.z 5 0)])) (news := roT (.fin z)) (evs := [(sParts z).e, (sNorm (fitG_sz hp |>.mono (by decide))).e, nNew 1 1 (by decide) (by decide) (by decide)]) (Ns := []) (m := 400) Tryz.func366 hmA (fun β => by kernel_rfl) (by kernel_rfl) β w hh, by cases p <;> kernel_rfl⟩
abbrev KD5 : Nat := 5000
theorem ro_sz {p : Pt} (hp : FitP p) (n : Nat) : Sz KD5 (roQ p n) := by
  cases p with
  | inf => match n with
    | 0 => exact one_sz.mono (by decide)
    | n + 1 => exact zero_sz.mono (by decide)
  | fin z =>
    have h : GSz 1024 z := fitG_sz hp
    match n with
    | 0 => exact h.norm.mono (by decide)
    | 1 => exact h.1.mono (by decide)
    | 2 => exact h.2.mono (by decide)
    | n + 3 => exact one_sz.mono (by decide)
section
variable {f g h : Nat → Rat} (hf : ∀ n, Sz KD5 (f n)) (hg : ∀ n, Sz KD5 (g n)) (hh : ∀ n, Sz KD5 (h n))
def trm (f g h : Nat → Rat) (s : Int) (a b c : Nat) : Rat := Rat.divInt s 1 * (f a * (g b * h c))
def detE (f g h : Nat → Rat) (i j k : Nat) : Rat := 0 + trm f g h 1 i j k + trm f g h 1 j k i + trm f g h 1 k i j + trm f g h (-1) i k j + trm f g h (-1) j i k + trm f g h (-1) k j i
abbrev KT : Nat := 15008
include hf hg hh in
theorem trm1_sz (a b c : Nat) : Sz KT (trm f g h 1 a b c) := ((sz_lit 1 1 (by decide) (by decide) (by decide)).mul ((hf a).mul ((hg b).mul (hh c)))).mono (by decide)
include hf hg hh in
theorem trmN_sz (a b c : Nat) : Sz KT (trm f g h (-1) a b c) := ((sz_lit (-1) 1 (by decide) (by decide) (by decide)).mul ((hf a).mul ((hg b).mul (hh c)))).mono (by decide)
def tmE (s : Int) (hs : -9223372036854775808 ≤ s ∧ s ≤ 9223372036854775807) (hz : Sz 8 (Rat.divInt s 1)) (a b c : Nat) : List (Ev Tryz.prog) :=
  [nNew s 1 hs (by decide) (by decide), (sMulR ((hg b).mono (by decide)) ((hh c).mono (by decide))).e, (sMulR ((hf a).mono (by decide)) (((hg b).mul (hh c)).mono (by decide))).e, (sMulR (hz.mono (by decide)) (((hf a).mul ((hg b).mul (hh c))).mono (by decide))).e]
theorem one8 : Sz 8 (Rat.divInt 1 1) := sz_lit 1 1 (by decide) (by decide) (by decide)
theorem mone8 : Sz 8 (Rat.divInt (-1) 1) := sz_lit (-1) 1 (by decide) (by decide) (by decide)
include hf hg hh in
theorem det_szs (i j k : Nat) : Sz (1 + KT + 1) (0 + trm f g h 1 i j k) ∧ Sz (1 + KT + 1 + KT + 1) (0 + trm f g h 1 i j k + trm f g h 1 j k i) ∧ Sz (1 + KT + 1 + KT + 1 + KT + 1) (0 + trm f g h 1 i j k + trm f g h 1 j k i + trm f g h 1 k i j) ∧
    Sz (1 + KT + 1 + KT + 1 + KT + 1 + KT + 1) (0 + trm f g h 1 i j k + trm f g h 1 j k i + trm f g h 1 k i j + trm f g h (-1) i k j) ∧ Sz (1 + KT + 1 + KT + 1 + KT + 1 + KT + 1 + KT + 1) (0 + trm f g h 1 i j k + trm f g h 1 j k i + trm f g h 1 k i j + trm f g h (-1) i k j + trm f g h (-1) j i k) ∧ Sz 100000 (detE f g h i j k) := by
  have a1 := sz_zero.add (trm1_sz hf hg hh i j k)
  have a2 := a1.add (trm1_sz hf hg hh j k i)
  have a3 := a2.add (trm1_sz hf hg hh k i j)
  have a4 := a3.add (trmN_sz hf hg hh i k j)
  have a5 := a4.add (trmN_sz hf hg hh j i k)
  have a6 := a5.add (trmN_sz hf hg hh k j i)
  exact ⟨a1, a2, a3, a4, a5, a6.mono (by decide)⟩
abbrev iV (n : Nat) : SV := .one (.c (.b (.v (.int .i64 (n : Int)))))
abbrev rowO (f g h : Nat → Rat) : List Ob := [(ratT (f 0)).ob, (ratT (f 1)).ob, (ratT (f 2)).ob, (ratT (f 3)).ob, (ratT (g 0)).ob, (ratT (g 1)).ob, (ratT (g 2)).ob, (ratT (g 3)).ob, (ratT (h 0)).ob, (ratT (h 1)).ob, (ratT (h 2)).ob, (ratT (h 3)).ob,
  .box [.b (.z 0 0), .b (.z 1 0), .b (.z 2 0), .b (.z 3 0), .b (.z 4 0), .b (.z 5 0), .b (.z 6 0), .b (.z 7 0), .b (.z 8 0), .b (.z 9 0), .b (.z 10 0), .b (.z 11 0)] 364]
def detEv (i j k : Nat) : List (Ev Tryz.prog) :=
  have z := det_szs hf hg hh i j k
  tmE hf hg hh 1 (by decide) one8 i j k ++ [sum0 ((trm1_sz hf hg hh i j k).mono (by decide))] ++ tmE hf hg hh 1 (by decide) one8 j k i ++ [sumN (z.1.mono (by decide)) ((trm1_sz hf hg hh j k i).mono (by decide))] ++
    tmE hf hg hh 1 (by decide) one8 k i j ++ [sumN (z.2.1.mono (by decide)) ((trm1_sz hf hg hh k i j).mono (by decide))] ++ tmE hf hg hh (-1) (by decide) mone8 i k j ++ [sumN (z.2.2.1.mono (by decide)) ((trmN_sz hf hg hh i k j).mono (by decide))] ++
    tmE hf hg hh (-1) (by decide) mone8 j i k ++ [sumN (z.2.2.2.1.mono (by decide)) ((trmN_sz hf hg hh j i k).mono (by decide))] ++ tmE hf hg hh (-1) (by decide) mone8 k j i ++ [sumN (z.2.2.2.2.1.mono (by decide)) ((trmN_sz hf hg hh k j i).mono (by decide))]
noncomputable def sDet123 : OSpec Tryz.prog :=
  OSpec.auto Tryz.call367 [iV 1, iV 2, iV 3, .one (.c (.b (.p 12 0)))] (rowO f g h) (rV 13) [detE f g h 1 2 3] (detEv hf hg hh 1 2 3) [(5, 23)] 3000 Tryz.func367 hmA (by kernel_rfl) (fun β => by kernel_rfl)
noncomputable def sDet023 : OSpec Tryz.prog :=
  OSpec.auto Tryz.call367 [iV 0, iV 2, iV 3, .one (.c (.b (.p 12 0)))] (rowO f g h) (rV 13) [detE f g h 0 2 3] (detEv hf hg hh 0 2 3) [(5, 23)] 3000 Tryz.func367 hmA (by kernel_rfl) (fun β => by kernel_rfl)
noncomputable def sDet013 : OSpec Tryz.prog :=
  OSpec.auto Tryz.call367 [iV 0, iV 1, iV 3, .one (.c (.b (.p 12 0)))] (rowO f g h) (rV 13) [detE f g h 0 1 3] (detEv hf hg hh 0 1 3) [(5, 23)] 3000 Tryz.func367 hmA (by kernel_rfl) (fun β => by kernel_rfl)
noncomputable def sDet012 : OSpec Tryz.prog :=
  OSpec.auto Tryz.call367 [iV 0, iV 1, iV 2, .one (.c (.b (.p 12 0)))] (rowO f g h) (rV 13) [detE f g h 0 1 2] (detEv hf hg hh 0 1 2) [(5, 23)] 3000 Tryz.func367 hmA (by kernel_rfl) (fun β => by kernel_rfl)
end
end Go.Proofs.YtfnmclgicjmapaaGreat.Y
end
section
namespace Go.Proofs.YtfnmclgicjmapaaGreat.Y
open Go Go.RowKit
set_option maxRecDepth 100000
theorem rat_self {x : Rat} (h : x ≠ 0) : x * x⁻¹ = 1 := Rat.mul_inv_cancel x h
theorem rby_one {r : RQ} (h0 : rby r ≠ 0) : rby (rone r) = 1 := by
  unfold rone
  generalize hx : rby r = x at h0 ⊢
  unfold rby rbyQ at hx
  have key : ∀ y : Rat, y = 0 → y * x⁻¹ = 0 := fun y e => by rw [e, Rat.zero_mul]
  cases h1 : decide (r.a = 0) with
  | false =>
    rw [h1] at hx
    have e : (rnm r x).a = 1 := by show r.a * x⁻¹ = 1; rw [show r.a = x from hx]; exact rat_self h0
    unfold rby rbyQ
    rw [show decide ((rnm r x).a = 0) = false by rw [e]; decide]
    exact e
  | true =>
    have ha : (rnm r x).a = 0 := key _ (of_decide_eq_true h1)
    cases h2 : decide (r.b.re = 0) with
    | false =>
      rw [h1, h2] at hx
      have e : (rnm r x).b.re = 1 := by show r.b.re * x⁻¹ = 1; rw [show r.b.re = x from hx]; exact rat_self h0
      unfold rby rbyQ
      rw [show decide ((rnm r x).a = 0) = true by rw [ha]; decide, show decide ((rnm r x).b.re = 0) = false by rw [e]; decide]
      exact e
    | true =>
      rw [h1, h2] at hx
      have hr : (rnm r x).b.re = 0 := key _ (of_decide_eq_true h2)
      have e : (rnm r x).b.im = 1 := by show r.b.im * x⁻¹ = 1; rw [show r.b.im = x from hx]; exact rat_self h0
      unfold rby rbyQ
      rw [show decide ((rnm r x).a = 0) = true by rw [ha]; decide, show decide ((rnm r x).b.re = 0) = true by rw [hr]; decide]
      exact e
theorem rone_rone {r : RQ} (h0 : rby r ≠ 0) : rone (rone r) = rone r := by
  have h1 : (1 : Rat)⁻¹ = 1 := of_decide_eq_true (by kernel_rfl : decide ((1 : Rat)⁻¹ = 1) = true)
  have h : ∀ s : RQ, rnm s 1 = s := fun s => by
    unfold rnm gscale
    rw [h1, Rat.mul_one, Rat.mul_one, Rat.mul_one, Rat.mul_one]
  have : rone (rone r) = rnm (rone r) 1 := by rw [← rby_one h0]; rfl
  rw [this, h]
theorem sq_sum {x y : Rat} (h : x * x + y * y = 0) : x = 0 ∧ y = 0 := by
  have hn : ∀ z : Rat, 0 ≤ z * z := fun z => by
    rcases Rat.le_total (a := 0) (b := z) with h | h
    · exact Rat.mul_nonneg h h
    · have := Rat.mul_nonneg (a := -z) (b := -z) (by grind) (by grind)
      grind
  have h1 := hn x
  have h2 := hn y
  have e1 : x * x = 0 := by grind
  have e2 : y * y = 0 := by grind
  exact ⟨by rcases Rat.mul_eq_zero.1 e1 with h | h <;> exact h, by rcases Rat.mul_eq_zero.1 e2 with h | h <;> exact h⟩
theorem tri_no {a b u1 u2 v1 v2 : Rat} (hu : ¬ (u1 = 0 ∧ u2 = 0)) (hv : ¬ (v1 = 0 ∧ v2 = 0)) (hd : ¬ (u1 - v1 = 0 ∧ u2 - v2 = 0))
    (k1 : u1 * v2 - u2 * v1 = 0) (k2 : (2 * (a * u1 + b * u2) + (u1 * u1 + u2 * u2)) * v2 = (2 * (a * v1 + b * v2) + (v1 * v1 + v2 * v2)) * u2)
    (k3 : (2 * (a * u1 + b * u2) + (u1 * u1 + u2 * u2)) * v1 = (2 * (a * v1 + b * v2) + (v1 * v1 + v2 * v2)) * u1) : False := by
  have a1 : (a * u1 + b * u2) * (v1 * v1 + v2 * v2) = (a * v1 + b * v2) * (u1 * v1 + u2 * v2) := by
    have : (a * u1 + b * u2) * (v1 * v1 + v2 * v2) - (a * v1 + b * v2) * (u1 * v1 + u2 * v2) = (a * v2 - b * v1) * (u1 * v2 - u2 * v1) := by grind
    rw [k1, Rat.mul_zero] at this
    grind
  have a2 : (a * u1 + b * u2) * (u1 * v1 + u2 * v2) = (a * v1 + b * v2) * (u1 * u1 + u2 * u2) := by
    have : (a * u1 + b * u2) * (u1 * v1 + u2 * v2) - (a * v1 + b * v2) * (u1 * u1 + u2 * u2) = (a * u2 - b * u1) * (u1 * v2 - u2 * v1) := by grind
    rw [k1, Rat.mul_zero] at this
    grind
  have b1 : (2 * (a * u1 + b * u2) + (u1 * u1 + u2 * u2)) * (v1 * v1 + v2 * v2) = (2 * (a * v1 + b * v2) + (v1 * v1 + v2 * v2)) * (u1 * v1 + u2 * v2) := by
    have : (2 * (a * u1 + b * u2) + (u1 * u1 + u2 * u2)) * (v1 * v1 + v2 * v2) = ((2 * (a * u1 + b * u2) + (u1 * u1 + u2 * u2)) * v1) * v1 + ((2 * (a * u1 + b * u2) + (u1 * u1 + u2 * u2)) * v2) * v2 := by grind
    rw [this, k3, k2]
    grind
  have b2 : (2 * (a * u1 + b * u2) + (u1 * u1 + u2 * u2)) * (u1 * v1 + u2 * v2) = (2 * (a * v1 + b * v2) + (v1 * v1 + v2 * v2)) * (u1 * u1 + u2 * u2) := by
    have : (2 * (a * u1 + b * u2) + (u1 * u1 + u2 * u2)) * (u1 * v1 + u2 * v2) = ((2 * (a * u1 + b * u2) + (u1 * u1 + u2 * u2)) * v1) * u1 + ((2 * (a * u1 + b * u2) + (u1 * u1 + u2 * u2)) * v2) * u2 := by grind
    rw [this, k3, k2]
    grind
  generalize hα : a * u1 + b * u2 = α at *
  generalize hβ : a * v1 + b * v2 = β at *
  generalize hS : u1 * u1 + u2 * u2 = S at *
  generalize hT : v1 * v1 + v2 * v2 = T at *
  generalize hP : u1 * v1 + u2 * v2 = Q at *
  have hS0 : S ≠ 0 := fun e => hu (sq_sum (by rw [hS]; exact e))
  have hT0 : T ≠ 0 := fun e => hv (sq_sum (by rw [hT]; exact e))
  have c1 : T * (S - Q) = 0 := by grind
  have c2 : S * (Q - T) = 0 := by grind
  have d1 : S - Q = 0 := (Rat.mul_eq_zero.1 c1).resolve_left hT0
  have d2 : Q - T = 0 := (Rat.mul_eq_zero.1 c2).resolve_left hS0
  exact hd (sq_sum (by grind))
theorem lit1 : (Rat.divInt 1 1 : Rat) = 1 := of_decide_eq_true (by kernel_rfl : decide ((Rat.divInt 1 1 : Rat) = 1) = true)
theorem litN : (Rat.divInt (-1) 1 : Rat) = -1 := of_decide_eq_true (by kernel_rfl : decide ((Rat.divInt (-1) 1 : Rat) = -1) = true)
theorem litH0 : (Rat.divInt (-1) 2 : Rat) ≠ 0 := of_decide_eq_true (by kernel_rfl : decide ((Rat.divInt (-1) 2 : Rat) ≠ 0) = true)
abbrev hlf : Rat := Rat.divInt (-1) 2
def detR (f g h : Nat → Rat) (i j k : Nat) : Rat := f i * (g j * h k - g k * h j) - f j * (g i * h k - g k * h i) + f k * (g i * h j - g j * h i)
theorem det_eq (f g h : Nat → Rat) (i j k : Nat) : detE f g h i j k = detR f g h i j k := by
  unfold detE detR trm
  rw [lit1, litN]
  grind
def thrQ (p q r : Pt) : RQ := ⟨detE (roQ p) (roQ q) (roQ r) 1 2 3, ⟨detE (roQ p) (roQ q) (roQ r) 0 2 3 * hlf, detE (roQ p) (roQ q) (roQ r) 0 1 3 * hlf⟩, -(detE (roQ p) (roQ q) (roQ r) 0 1 2)⟩
theorem thr_dets {p q r : Pt} (h1 : p ≠ q) (h2 : q ≠ r) (h3 : p ≠ r) : ¬ (detE (roQ p) (roQ q) (roQ r) 1 2 3 = 0 ∧ detE (roQ p) (roQ q) (roQ r) 0 2 3 = 0 ∧ detE (roQ p) (roQ q) (roQ r) 0 1 3 = 0) := by
  rw [det_eq, det_eq, det_eq]
  unfold detR
  have ne : ∀ {z w : GQ}, Pt.fin z ≠ Pt.fin w → ¬ (z.re = w.re ∧ z.im = w.im) := fun h e => h (congrArg Pt.fin (GQ.ext2 e.1 e.2))
  rintro ⟨k1, k2, k3⟩
  cases p with
  | inf => cases q with
    | inf => exact h1 rfl
    | fin w => cases r with
      | inf => exact h3 rfl
      | fin t =>
        simp only [roQ, lit1, zero_div] at k1 k2 k3
        exact ne h2 ⟨by grind, by grind⟩
  | fin z => cases q with
    | inf => cases r with
      | inf => exact h2 rfl
      | fin t =>
        simp only [roQ, lit1, zero_div] at k1 k2 k3
        exact ne h3 ⟨by grind, by grind⟩
    | fin w => cases r with
      | inf =>
        simp only [roQ, lit1, zero_div] at k1 k2 k3
        exact ne h1 ⟨by grind, by grind⟩
      | fin t =>
        simp only [roQ, lit1, gnorm] at k1 k2 k3
        refine tri_no (a := z.re) (b := z.im) (u1 := w.re - z.re) (u2 := w.im - z.im) (v1 := t.re - z.re) (v2 := t.im - z.im) (fun e => ne h1 ⟨by grind, by grind⟩) (fun e => ne h3 ⟨by grind, by grind⟩) (fun e => ne h2 ⟨by grind, by grind⟩) ?_ ?_ ?_
        · grind
        · grind
        · grind
theorem thr_ne {p q r : Pt} (h1 : p ≠ q) (h2 : q ≠ r) (h3 : p ≠ r) : rby (thrQ p q r) ≠ 0 := by
  intro e
  have h := thr_dets h1 h2 h3
  unfold rby rbyQ thrQ at e
  dsimp only at e
  have hh : ∀ x : Rat, x * hlf = 0 → x = 0 := fun x e => (Rat.mul_eq_zero.1 e).resolve_right litH0
  cases k1 : decide (detE (roQ p) (roQ q) (roQ r) 1 2 3 = 0) with
  | false => rw [k1] at e; exact of_decide_eq_false k1 e
  | true => cases k2 : decide (detE (roQ p) (roQ q) (roQ r) 0 2 3 * hlf = 0) with
    | false => rw [k1, k2] at e; exact of_decide_eq_false k2 e
    | true =>
      rw [k1, k2] at e
      exact h ⟨of_decide_eq_true k1, hh _ (of_decide_eq_true k2), hh _ e⟩
section
variable {p q r : Pt} (hp : FitP p) (hq : FitP q) (hr : FitP r)
theorem hlf_sz : Sz 8 hlf := sz_lit (-1) 2 (by decide) (by decide) (by decide)
include hp hq hr in
theorem dt_sz (i j k : Nat) : Sz 100000 (detE (roQ p) (roQ q) (roQ r) i j k) := (det_szs (ro_sz hp) (ro_sz hq) (ro_sz hr) i j k).2.2.2.2.2
include hp hq hr in
theorem thr_sz : RSz 300000 (thrQ p q r) :=
  ⟨(dt_sz hp hq hr 1 2 3).mono (by decide), ⟨((dt_sz hp hq hr 0 2 3).mul hlf_sz).mono (by decide), ((dt_sz hp hq hr 0 1 3).mul hlf_sz).mono (by decide)⟩, (dt_sz hp hq hr 0 1 2).neg.mono (by decide)⟩
noncomputable def sEThrough (h0 : rby (thrQ p q r) ≠ 0) : Spec Tryz.prog :=
  Spec.auto Tryz.call285 [pV 0 p, pV 2 q, pV 4 r] (pM p ++ pM q ++ pM r) (rgV 6) (rgT (rone (thrQ p q r)))
    [(sRow hp).e, (sRow hq).e, (sRow hr).e, nNew (-1) 2 (by decide) (by decide) (by decide), (sDet123 (ro_sz hp) (ro_sz hq) (ro_sz hr)).e, (sDet023 (ro_sz hp) (ro_sz hq) (ro_sz hr)).e, (sMulR ((dt_sz hp hq hr 0 2 3).mono (by decide)) (hlf_sz.mono (by decide))).e,
      (sDet013 (ro_sz hp) (ro_sz hq) (ro_sz hr)).e, (sMulR ((dt_sz hp hq hr 0 1 3).mono (by decide)) (hlf_sz.mono (by decide))).e, mkR, (sDet012 (ro_sz hp) (ro_sz hq) (ro_sz hr)).e, fNeg (detE (roQ p) (roQ q) (roQ r) 0 1 2), (sRNormal ((thr_sz hp hq hr).mono (by decide)) rfl rfl h0).e]
    [(1, 8)] 3000 Tryz.func285 hmA (by kernel_rfl) (fun β => by kernel_rfl)
end
end Go.Proofs.YtfnmclgicjmapaaGreat.Y
end
section
namespace Go.Proofs.YtfnmclgicjmapaaGreat.Y
open Go Go.RowKit
set_option maxRecDepth 100000
def sETwice {x : Rat} (hx : Sz KB x) : Spec Tryz.prog :=
  Spec.auto Tryz.call375 [rV 0] [ratT x] (rV 1) [ratT (x + x)] [mkR, fAdd hx hx] [] 400 Tryz.func375 hmA (by kernel_rfl) (fun β => by kernel_rfl)
abbrev KS3 : Nat := 10000000
noncomputable def sSum3 {x y z : Rat} (hx : Sz KS3 x) (hy : Sz KS3 y) (hz : Sz KS3 z) : OSpec Tryz.prog :=
  OSpec.auto Tryz.call374 [.one (.c (.b (.s 3 0 3 3)))] [(ratT x).ob, (ratT y).ob, (ratT z).ob, .box [.b (.z 0 0), .b (.z 1 0), .b (.z 2 0)] 164] (rV 4) [0 + x + y + z]
    [sum0 (hx.mono (by decide)), sumN ((sz_zero.add hx).mono (by decide)) (hy.mono (by decide)), sumN (((sz_zero.add hx).add hy).mono (by decide)) (hz.mono (by decide))] [] 800 Tryz.func374 hmA (by kernel_rfl) (fun β => by kernel_rfl)
def valQ (r : RQ) (z : GQ) : Rat := 0 + r.a * gnorm z + ((gmul r.b z).re + (gmul r.b z).re) + r.c
noncomputable def sValue {r : RQ} {z : GQ} (h : RSz KC r) (hz : GSz KC z) : Spec Tryz.prog :=
  Spec.auto Tryz.call297 [rgV 0, nV 4] (rgT r ++ gM z) (rV 6) [ratT (valQ r z)]
    [(sMul (h.b.mono (by decide)) (hz.mono (by decide))).e, (sParts (gmul r.b z)).e, (sNorm (hz.mono (by decide))).e, (sMulR (h.a.mono (by decide)) (hz.norm.mono (by decide))).e, (sETwice ((h.b.mul hz).1.mono (by decide))).e,
      (sSum3 ((h.a.mul hz.norm).mono (by decide)) (((h.b.mul hz).1.add (h.b.mul hz).1).mono (by decide)) (h.c.mono (by decide))).e] [(2, 12)] 800 Tryz.func297 hmA (by kernel_rfl) (fun β => by kernel_rfl)
def sidQ (r : RQ) : Pt → Rat
  | .inf => r.a
  | .fin z => valQ r z
noncomputable def sESide {r : RQ} {p : Pt} (h : RSz KC r) (hp : FitP p) : Spec Tryz.prog :=
  ⟨300, Tryz.call300, [rgV 0, pV 4 p], rgT r ++ pM p, .one (nI' (sidQ r p).num.sign), [], fun β w hh => by
    cases p with
    | inf => exact spec_auto (args := [rgV 0, pV 4 .inf]) (obs := rgT r ++ pM .inf) (evs := [nSign (x := r.a) rfl]) (Ns := []) (m := 400) Tryz.func300 hmA (fun β => by kernel_rfl) (by kernel_rfl) β w hh
    | fin z => exact spec_auto (args := [rgV 0, pV 4 (.fin z)]) (obs := rgT r ++ pM (.fin z)) (evs := [(sValue h (fitG_sz hp |>.mono (by decide))).e, nSign (x := valQ r z) rfl]) (Ns := []) (m := 400) Tryz.func300 hmA (fun β => by kernel_rfl) (by kernel_rfl) β w hh, by cases p <;> kernel_rfl⟩
theorem cmp_self (x : Rat) : cmpQ x x = 0 := by
  have h : (!(cmpQ x x == 0)) = false ∨ (!(cmpQ x x == 0)) = true := by cases (!(cmpQ x x == 0)) <;> simp
  unfold cmpQ
  simp
theorem gsub_self (z : GQ) : gzero (gsub z z) = true := by
  rw [gz_true]
  refine GQ.ext2 ?_ ?_ <;> (simp only [gsub, g0]; grind)
noncomputable def sRSame {r : RQ} (h : RSz KC r) : Spec Tryz.prog :=
  Spec.auto Tryz.call373 [rgV 0, rgV 4] (rgT r ++ rgT r) (tB' true) [] [nCmp (h.a.mono (by decide)) (h.a.mono (by decide)) (cmp_self r.a), (sSame (h.b.mono (by decide)) (h.b.mono (by decide)) (gsub_self r.b)).e, nCmp (h.c.mono (by decide)) (h.c.mono (by decide)) (cmp_self r.c)] [] 400 Tryz.func373 hmA (by kernel_rfl) (fun β => by kernel_rfl)
structure MayC (r : RQ) : Prop where
  fit : FitC r
  pow : decide ((rpow r).num.sign ≤ 0) = false
  one : rone r = r
theorem MayC.sz {r : RQ} (h : MayC r) : RSz KC r := mk_sz h.fit.1 h.fit.2.1 h.fit.2.2
def Spec.newsTo {P : Program} (S : Spec P) (l : List Thing) (h : S.news = l) : Spec P :=
  ⟨S.f, S.en, S.args, S.obs, S.res, l, fun β w hh => by rw [← h]; exact S.ok β w hh, by rw [← h]; exact S.closed⟩
noncomputable def sRNorm1 {r : RQ} (h : MayC r) : Spec Tryz.prog :=
  (sRNormal h.sz rfl rfl (rby_ne h.pow)).newsTo (rgT r) (by show rgT (rone r) = rgT r; rw [h.one])
noncomputable def sWheel {r : RQ} (h : MayC r) : Spec Tryz.prog :=
  Spec.auto Tryz.call295 [.one (.a (cC r))] [] (.tup [.a [.b (.z 0 0), .b (.z 1 0), .b (.z 2 0), .b (.z 3 0)], .c (.b (.v (.bool true)))]) (rgT r)
    [(ofG h.fit.2.1).e, (sRatIn h.fit.1).e, (sRatIn h.fit.2.2).e, dEq r.a, dEq r.c, (sPower h.sz).e, nSign (x := rpow r) rfl, .eqv 37 (.bool (decide ((rpow r).num.sign ≤ 0))) (.bool false) (sgn_le h.pow), (sRNorm1 h).e, (sRSame h.sz).e] [(2, 9), (5, 5)] 1200 Tryz.func295 hmA (by kernel_rfl) (fun β => by kernel_rfl)
noncomputable def sCCheck {r : RQ} (h : MayC r) : Spec Tryz.prog :=
  Spec.auto Tryz.call136 [.one (.a (cC r))] [] (.one (nI' 0)) [] [(sWheel h).e] [] 400 Tryz.func136 hmA (by kernel_rfl) (fun β => by kernel_rfl)
theorem sgn_lt {n : Int} {t : Bool} (h : decide (n < 0) = t) : Value.bool (decide (n < 0)) = .bool t := by rw [h]
noncomputable def sdE {r : RQ} {p : Pt} (h : MayC r) (hp : FitP p) : List (Ev Tryz.prog) := [(sWheel h).e, (sSpotP p hp).e, (sESide h.sz hp).e]
noncomputable def sCSideN {r : RQ} {p : Pt} (h : MayC r) (hp : FitP p) (hs : decide ((sidQ r p).num.sign < 0) = true) : Spec Tryz.prog :=
  Spec.auto Tryz.call137 [.one (.a (cC r)), svP p] [] (.tup [nI' (-1), nI' 0]) [] (sdE h hp ++ [.eqv 32 (.bool (decide ((sidQ r p).num.sign < 0))) (.bool true) (sgn_lt hs)]) [] 400 Tryz.func137 hmA (by kernel_rfl) (fun β => by kernel_rfl)
end Go.Proofs.YtfnmclgicjmapaaGreat.Y
end
section
namespace Go.Proofs.YtfnmclgicjmapaaGreat.Y
open Go Go.RowKit
set_option maxRecDepth 100000
theorem den_three (β : Env) (n : Nat) (b : Bool) (p q : Pl) : (SV.one (.a [.b (.v (.bool b)), .b (.z n 0), .b (.z (n + 1) 0)])).den (extE β n [p, q]) = .agg #[.bool b, .pointer (p.v 0), .pointer (q.v 0)] := by
  have h1 := extE_in (β := β) (n := n) (i := 0) (xs := [p, q]) rfl
  have h2 := extE_in (β := β) (n := n) (i := 1) (xs := [p, q]) rfl
  rw [Nat.add_zero] at h1
  simp [SV.den, SC.den, Lf.den, Lf0.den, h1, h2]
def rdPlace (d t : Nat) (e : TypeId) (cs : List Cd) (o : Nat) (b : Bool) (x y : Rat) (hb : cs[o]? = some (.v (.bool b))) (hx : cs[o + 1]? = some (.r x)) (hy : cs[o + 2]? = some (.r y)) (k n : Nat) : Ev Tryz.prog :=
  .rd d (.load 205 (.tmp t)) (fun β => [.pointer (some ⟨(β k).b, o, none⟩)]) [(k, (rowT e cs).ob)] n (.one (.a [.b (.v (.bool b)), .b (.z n 0), .b (.z (n + 1) 0)])) [ratM x, ratM y] (fun β w h ρ op ho hx' => by
    have h1 : RW e cs w (β k) := h (k, (rowT e cs).ob) (by simp)
    have h2 : ρ (.tmp t) = .pointer (some ⟨(β k).b, o, none⟩) := by simpa [Op.operands] using hx'
    have p1 := cdOk_at h1.2.1.1 hx
    have p2 := cdOk_at h1.2.1.1 hy
    rw [Nat.zero_add] at p1 p2
    refine ⟨[cellPl (β k) (o + 1), cellPl (β k) (o + 2)], w, fun g hg c hc => .inr ⟨(k, (rowT e cs).ob), by simp, rfl, ?_⟩, ?_, ⟨cellPl_or p1, cellPl_or p2, trivial⟩, Below.refl _ _⟩
    · rcases List.mem_cons.1 hg with rfl | hg
      · exact cellPl_F p1 hc
      · obtain rfl := List.mem_singleton.1 hg
        exact cellPl_F p2 hc
    · have hr : w.rangeAt (β k).b o [.bool b, .pointer ((β k).v (o + 1)), .pointer ((β k).v (o + 2))] := fun j v hv => by
        match j, hv with
        | 0, hv => simp only [List.getElem?_cons_zero] at hv; obtain rfl := Option.some.inj hv; exact rw_cell h1 hb
        | 1, hv => simp only [List.getElem?_cons_succ, List.getElem?_cons_zero] at hv; obtain rfl := Option.some.inj hv; exact rw_cell h1 hx
        | 2, hv => simp only [List.getElem?_cons_succ, List.getElem?_cons_zero] at hv; obtain rfl := Option.some.inj hv; exact rw_cell h1 hy
        | j + 3, hv => simp at hv
      have hl := run_loadAt_mid (P := Tryz.prog) w (β k).b o 205 _ _ hr Tryz.underlying205 (by kernel_rfl) (by kernel_rfl)
      rw [den_three]
      unfold execOp
      rw [ho]
      simp only [h2]
      simp [hl, Result.andThen]
      exact ⟨rfl, rfl⟩)
def dPlace (e : TypeId) (cs : List Cd) : Ev Tryz.prog := .dyn (fun o xs ob => match o.op with
  | .load T (.tmp _) => Nat.beq T 205 && isAd (xs.getD 0 undefS) && (match ob[(adOf (xs.getD 0 undefS)).1]? with | some (.th _) => true | _ => false)
  | _ => false) fun o xs ob => match o.op with
  | .load _ (.tmp t) => lit (adOf (xs.getD 0 undefS)).1 fun k => lit (adOf (xs.getD 0 undefS)).2 fun off => lit ob.length fun n => match hb : cs[off]?, hx : cs[off + 1]?, hy : cs[off + 2]? with
    | some (.v (.bool b)), some (.r x), some (.r y) => rdPlace (o.dst.getD 0) t e cs off b x y hb hx hy k n
    | _, _, _ => .eqv 0 undef undef rfl
  | _ => .eqv 0 undef undef rfl
def rdIdxP (d t : Nat) (e : TypeId) (cs : List Cd) (ix : Operand) (n j : Nat) (hj : Nat.blt j n = true) (k : Nat) : Ev Tryz.prog :=
  .rd d (.indexAddr 285 (.tmp t) ix) (fun β => [.slice ((β k).v cs.length) n ((β k).c cs.length), .int .i64 (j : Int)]) [(k, (rowT e cs).ob)] 0 (.one (.c (.b (.p k (j * 3))))) [] (fun β w h ρ op ho hx' => by
    have h1 : RW e cs w (β k) := h (k, (rowT e cs).ob) (by simp)
    have h2 : ρ (.tmp t) = .slice (some ⟨(β k).b, 0, none⟩) n ((β k).c cs.length) ∧ ρ ix = .int .i64 (j : Int) := by
      rw [h1.2.1.2] at hx'
      simpa [Op.operands] using hx'
    rw [Nat.blt_eq] at hj
    refine ⟨[], w, (fun _ h => by cases h), ?_, trivial, Below.refl _ _⟩
    rw [extE_nil]
    unfold execOp
    rw [ho]
    simp only [h2.1, h2.2]
    have hi := run_indexAt_slice (P := Tryz.prog) w 285 ⟨(β k).b, 0, none⟩ n ((β k).c cs.length) .i64 (j : Int) (by kernel_rfl)
    have hsz : (sizeOf (Tryz.prog.elem 285)).run Tryz.prog w = .ok 3 w := by kernel_rfl
    rw [if_pos ⟨by omega, by omega⟩, hsz, Result.andThen_ok, Int.toNat_natCast] at hi
    have ha : (⟨(β k).b, 0, none⟩ : Addr).add (j * 3) = ⟨(β k).b, j * 3, none⟩ := by
      simp [Addr.add]
      exact fun h => h.symm
    rw [ha] at hi
    simp only [Sem.run_bind, hi, Result.andThen_ok]
    rfl)
def dIdxP (e : TypeId) (cs : List Cd) : Ev Tryz.prog := .dyn (fun o xs ob => match o.op with
  | .indexAddr _ (.tmp _) _ => isY (xs.getD 0 undefS)
  | _ => false) fun o xs ob => match o.op with
  | .indexAddr _ (.tmp t) ix => lit (yOf (xs.getD 0 undefS)).1 fun k => lit (yOf (xs.getD 0 undefS)).2 fun n => lit (intS (xs.getD 1 undefS)) fun j => if h : Nat.blt j n = true then rdIdxP (o.dst.getD 0) t e cs ix n j h k else .eqv 0 undef undef rfl
  | _ => .eqv 0 undef undef rfl
theorem place_some : (Tryz.prog.info? 205).isSome = true := by kernel_rfl
noncomputable def appP : AppT Tryz.prog :=
  ⟨285, 205, (Tryz.prog.info? 205).get place_some, .agg #[.bool false, .pointer none, .pointer none], 3, 24, Tryz.underlying285, (Option.some_get place_some).symm, by kernel_rfl, by kernel_rfl, by kernel_rfl, rfl, by decide, by decide⟩
def plCd (p : Pt) : List Cd := [.v (.bool (pI p)), .r (pG p).re, .r (pG p).im]
abbrev pl3 (p q r : Pt) : List Cd := plCd p ++ plCd q ++ plCd r
abbrev sp3A : List SV := [.one (.c (.b (.s 0 0 3 3)))]
def sp3L (p q r : Rw) : List Lf := lsX p.C ++ lsX q.C ++ lsX r.C
abbrev PLT : TypeId := 205
def sp3O (p q r : Pt) : List (Nat × Ob) :=
  [(18, .row [.b (.v (.bool (pI p))), .b (.z 2 0), .b (.z 3 0), .b (.v (.bool (pI q))), .b (.z 8 0), .b (.z 9 0), .b (.v (.bool (pI r))), .b (.z 14 0), .b (.z 15 0)] PLT 3 3),
    (2, (ratM (pG p).re).ob), (3, (ratM (pG p).im).ob), (8, (ratM (pG q).re).ob), (9, (ratM (pG q).im).ob), (14, (ratM (pG r).re).ob), (15, (ratM (pG r).im).ob)]
noncomputable def sp3E {p q r : Pt} (hp : FitP p) (hq : FitP q) (hr : FitP r) : List (Ev Tryz.prog) := [(sSpotP p hp).e, .app appP, (sSpotP q hq).e, .app appP, (sSpotP r hr).e, .app appP]
theorem sp3_eqs {p q r : Pt} (hp : FitP p) (hq : FitP q) (hr : FitP r) (β : Env) :
    (allS Tryz.prog Tryz.f284 sp3A [.box (sp3L p.w q.w r.w) 47] (sp3E hp hq hr) [] 800 (.tup [.c (.b (.r 18 3)), .c (.b (.v (.bool true)))]) (sp3O p q r) β).map Prod.fst =
    (allS Tryz.prog Tryz.f284 sp3A [.box (sp3L p.w q.w r.w) 47] (sp3E hp hq hr) [] 800 (.tup [.c (.b (.r 18 3)), .c (.b (.v (.bool true)))]) (sp3O p q r) β).map Prod.snd := by kernel_rfl
theorem pt_no_rat {w : World} {b : Nat} {c0 : Value} {b1 : Bool} {l : List Value} {t : TypeId} {x : Rat} (h : w.heap[b]? = some (.cells (c0 :: .bool b1 :: l).toArray t (0, 0))) (k : RatAt w b 0 x) : False := by
  obtain ⟨A, m, cap, _, h1, _⟩ := k.2.1.open_
  have h2 := cell_lay (o := 1) h rfl
  rw [Nat.zero_add, h2] at h1
  cases h1
theorem or_cd {w : World} {g G : Pl} {x : Rat} {i : Nat} (h : OR0 x w g) (hv : G.v i = g.v 0) (hF : ∀ c, g.F c → G.F c) : cdP w G i (.r x) := by
  rcases h with ⟨h1, _, h3⟩ | ⟨b, h1, h2⟩
  · exact .inl ⟨hv.trans h1, h3⟩
  · exact .inr ⟨b, hv.trans h1.1, hF b ((h1.2 b).2 rfl), h2⟩
theorem spots3_ok {p q r : Pt} (hp : FitP p) (hq : FitP q) (hr : FitP r) (β : Env) (w : World) (hh : (Ob.box (sp3L p.w q.w r.w) 47).holds β w (β 0)) :
    Calls Tryz.prog 284 (sp3A.map (SV.den β)).toArray w fun e u => ∃ xs : List Pl, (∀ x ∈ xs, ∀ c, x.F c → w.heap.size ≤ c) ∧ e = .returned ((SV.tup [.c (.b (.y 1 9 3)), .c (.b (.v (.bool true)))]).den (extE β 1 xs)) ∧ newHold u [rowT PLT (pl3 p q r)] xs ∧ Below w.heap.size w u := by
  refine (sx (P := Tryz.prog) sp3A [.box (sp3L p.w q.w r.w) 47] (sp3E hp hq hr) [] 800 (.tup [.c (.b (.r 18 3)), .c (.b (.v (.bool true)))]) (sp3O p q r) Tryz.func284 hmA (fun β => ok_of_maps (sp3_eqs hp hq hr β)) (by kernel_rfl) (by kernel_rfl) β w (fun k o ho => ?_)).mono ?_
  · cases k with
    | zero => simp only [List.getElem?_cons_zero] at ho; obtain rfl := Option.some.inj ho; exact hh
    | succ k => simp at ho
  · rintro e u ⟨β', q', obj, e1, rfl, e2, e4, e5, g⟩
    have hnew : ∀ y ∈ sp3O p q r, ∀ c, (β' y.1).F c → c ≠ (β 0).b → w.heap.size ≤ c := fun y hy c hc hne => by
      rcases e4 y hy c hc with h | ⟨i, hi, h⟩
      · exact h
      · obtain rfl : i = 0 := by simp only [List.length_singleton] at hi; omega
        exact absurd ((hh.1.1 c).1 h) hne
    have hu : u.heap[(β 0).b]? = some (.cells ((sp3L p.w q.w r.w).map (Lf.den β)).toArray 47 (0, 0)) := by rw [g.bel.block _ (heap_lt hh.2)]; exact hh.2
    have hrat : ∀ (k : Nat) (x : Rat), (k, (ratM x).ob) ∈ sp3O p q r → OR0 x u (β' k) ∧ ∀ c, (β' k).F c → w.heap.size ≤ c := fun k x hk => by
      have h : OR0 x u (β' k) := e5 _ hk
      refine ⟨h, fun c hc => ?_⟩
      rcases h with ⟨_, h2, _⟩ | ⟨b, hb, hx⟩
      · exact absurd hc (h2 c)
      · have ec := (hb.2 c).1 hc
        subst ec
        refine hnew _ hk c hc fun e => ?_
        rw [e] at hx
        exact pt_no_rat hu hx
    obtain ⟨o2, n2⟩ := hrat 2 (pG p).re (by simp [sp3O])
    obtain ⟨o3, n3⟩ := hrat 3 (pG p).im (by simp [sp3O])
    obtain ⟨o8, n8⟩ := hrat 8 (pG q).re (by simp [sp3O])
    obtain ⟨o9, n9⟩ := hrat 9 (pG q).im (by simp [sp3O])
    obtain ⟨o14, n14⟩ := hrat 14 (pG r).re (by simp [sp3O])
    obtain ⟨o15, n15⟩ := hrat 15 (pG r).im (by simp [sp3O])
    obtain ⟨hone, cur, hcur, hcl, hn, hcm, hsz, htake⟩ := e5 (18, .row [.b (.v (.bool (pI p))), .b (.z 2 0), .b (.z 3 0), .b (.v (.bool (pI q))), .b (.z 8 0), .b (.z 9 0), .b (.v (.bool (pI r))), .b (.z 14 0), .b (.z 15 0)] PLT 3 3) (by simp [sp3O])
    have hb18 : w.heap.size ≤ (β' 18).b := hnew _ (by simp [sp3O]) _ ((hone.1 _).2 rfl) fun e => by
      rw [e, hu] at hcur
      have := (Obj.cells.inj (Option.some.inj hcur)).2.1
      exact absurd this (by decide)
    refine ⟨[⟨(β' 18).b, fun i => match i with | 1 => (β' 2).v 0 | 2 => (β' 3).v 0 | 4 => (β' 8).v 0 | 5 => (β' 9).v 0 | 7 => (β' 14).v 0 | 8 => (β' 15).v 0 | 9 => some ⟨(β' 18).b, 0, none⟩ | _ => none, fun _ => (β' 18).c 0,
      fun c => c = (β' 18).b ∨ (β' 2).F c ∨ (β' 3).F c ∨ (β' 8).F c ∨ (β' 9).F c ∨ (β' 14).F c ∨ (β' 15).F c, fun _ => undef⟩], fun x hx c hc => ?_, rfl, ⟨⟨⟨.inl rfl, cur, hcur, ?_⟩, ⟨⟨trivial, or_cd o2 rfl fun c hc => .inr (.inl hc), or_cd o3 rfl fun c hc => .inr (.inr (.inl hc)), trivial, or_cd o8 rfl fun c hc => .inr (.inr (.inr (.inl hc))), or_cd o9 rfl fun c hc => .inr (.inr (.inr (.inr (.inl hc)))), trivial, or_cd o14 rfl fun c hc => .inr (.inr (.inr (.inr (.inr (.inl hc))))), or_cd o15 rfl fun c hc => .inr (.inr (.inr (.inr (.inr (.inr hc))))), trivial⟩, rfl⟩, fun c hc => ?_⟩, trivial⟩, g.bel⟩
    · obtain rfl := List.mem_singleton.1 hx
      rcases hc with rfl | hc | hc | hc | hc | hc | hc
      · exact hb18
      · exact n2 c hc
      · exact n3 c hc
      · exact n8 c hc
      · exact n9 c hc
      · exact n14 c hc
      · exact n15 c hc
    · have : (pl3 p q r).length = 3 * 3 := rfl
      rw [this, htake]
      rfl
    · rcases hc with rfl | hc | hc | hc | hc | hc | hc
      · exact heap_lt hcur
      · exact (or_stable _).lt u _ o2 c hc
      · exact (or_stable _).lt u _ o3 c hc
      · exact (or_stable _).lt u _ o8 c hc
      · exact (or_stable _).lt u _ o9 c hc
      · exact (or_stable _).lt u _ o14 c hc
      · exact (or_stable _).lt u _ o15 c hc
noncomputable def sSpots3 {p q r : Pt} (hp : FitP p) (hq : FitP q) (hr : FitP r) : CSpec Tryz.prog :=
  ⟨284, Tryz.call284, sp3A, sp3L p.w q.w r.w, 47, .tup [.c (.b (.y 1 9 3)), .c (.b (.v (.bool true)))], [rowT PLT (pl3 p q r)], spots3_ok hp hq hr, by kernel_rfl⟩
section
variable {p q r : Pt} (hp : FitP p) (hq : FitP q) (hr : FitP r)
include hp hq hr in
theorem thr1_sz (h0 : rby (thrQ p q r) ≠ 0) : RSz KC (rone (thrQ p q r)) := (rnm_sz (thr_sz hp hq hr) (rby_sz (thr_sz hp hq hr) _ _) h0).mono (by decide)
theorem thr1_ne (h0 : rby (thrQ p q r) ≠ 0) : rby (rone (thrQ p q r)) ≠ 0 := by
  rw [rby_one h0]
  decide
noncomputable def sRTold2 (h0 : rby (thrQ p q r) ≠ 0) : Spec Tryz.prog :=
  (sRTold (thr1_sz hp hq hr h0) rfl rfl (thr1_ne h0)).conv (ciA (rone (thrQ p q r))) (congrArg ciA (rone_rone h0))
abbrev idP (p q r : Pt) : List (Ev Tryz.prog) := [dIdxP PLT (pl3 p q r), dPlace PLT (pl3 p q r)]
noncomputable def sCiThrough (h1 : ptB p q = false) (h2 : ptB q r = false) (h3 : ptB p r = false) (h0 : rby (thrQ p q r) ≠ 0) : Spec Tryz.prog :=
  Spec.auto Tryz.call116 [svP p, svP q, svP r] [] (ciA (rone (thrQ p q r))) [] ([(sSpots3 hp hq hr).e, eqEvPt h1, eqEvPt h2, eqEvPt h3] ++ idP p q r ++ idP p q r ++ idP p q r ++ [(sEThrough hp hq hr h0).e, (sRTold2 hp hq hr h0).e])
    [(6, 13)] 1200 Tryz.func116 hmA (by kernel_rfl) (fun β => by kernel_rfl)
end
end Go.Proofs.YtfnmclgicjmapaaGreat.Y
end
section
namespace Go.Proofs.YtfnmclgicjmapaaGreat
open Go Go.Shelf Go.RowKit
open Go.Proofs.YtfnmclgicjmapaaGreat.Y
set_option maxRecDepth 100000
def joinRen : Go.Shelf.Ren := ⟨fun | 156 => 365 | 165 => 402 | 166 => 403 | 169 => 404 | 240 => 411 | 241 => 412 | 276 => 413 | 277 => 414 | n => n, fun | 31 => 361 | 9 => 9 | 3 => 3 | 4 => 4 | 0 => 0 | 20 => 20 | 72 => 396 | 76 => 400 | 70 => 394 | 37 => 315 | 75 => 399 | 127 => 407 | 164 => 408 | 5 => 5 | 80 => 376 | n => n, fun | n => n⟩
theorem joinLays : Go.Proofs.Lays.n156 Tryz.prog joinRen := {
  mixed := by kernel_rfl
  f156 := Tryz.func365.trans (congrArg some (by kernel_rfl))
  f165 := Tryz.func402.trans (congrArg some (by kernel_rfl))
  f166 := Tryz.func403.trans (congrArg some (by kernel_rfl))
  f169 := Tryz.func404.trans (congrArg some (by kernel_rfl))
  f240 := Tryz.func411.trans (congrArg some (by kernel_rfl))
  f241 := Tryz.func412.trans (congrArg some (by kernel_rfl))
  f276 := Tryz.func413.trans (congrArg some (by kernel_rfl))
  f277 := Tryz.func414.trans (congrArg some (by kernel_rfl))
  t0 := Tryz.underlying0
  a0 := Tryz.isAgg0
  z0 := Tryz.sizeOf0
  v0 := Tryz.zeroValue0
  t3 := Tryz.underlying3
  a3 := Tryz.isAgg3
  z3 := Tryz.sizeOf3
  v3 := Tryz.zeroValue3
  t4 := Tryz.underlying4
  a4 := Tryz.isAgg4
  z4 := Tryz.sizeOf4
  v4 := Tryz.zeroValue4
  t9 := Tryz.underlying9
  a9 := Tryz.isAgg9
  z9 := Tryz.sizeOf9
  v9 := Tryz.zeroValue9
  t20 := Tryz.underlying20
  a20 := Tryz.isAgg20
  z20 := Tryz.sizeOf20
  v20 := Tryz.zeroValue20
  t31 := Tryz.underlying361
  a31 := Tryz.isAgg361
  z31 := Tryz.sizeOf361
  v31 := Tryz.zeroValue361
  t37 := Tryz.underlying315
  a37 := Tryz.isAgg315
  z37 := Tryz.sizeOf315
  v37 := Tryz.zeroValue315
  t70 := Tryz.underlying394
  a70 := Tryz.isAgg394
  z70 := Tryz.sizeOf394
  v70 := Tryz.zeroValue394
  t72 := Tryz.underlying396
  a72 := Tryz.isAgg396
  z72 := Tryz.sizeOf396
  v72 := Tryz.zeroValue396
  t75 := Tryz.underlying399
  a75 := Tryz.isAgg399
  z75 := Tryz.sizeOf399
  v75 := Tryz.zeroValue399
  t76 := Tryz.underlying400
  a76 := Tryz.isAgg400
  z76 := Tryz.sizeOf400
  v76 := Tryz.zeroValue400
  t127 := Tryz.underlying407
  a127 := Tryz.isAgg407
  z127 := Tryz.sizeOf407
  v127 := Tryz.zeroValue407
  t164 := Tryz.underlying408
  a164 := Tryz.isAgg408
  z164 := Tryz.sizeOf408
  v164 := Tryz.zeroValue408 }
theorem joinExtra : Builder.Extra Tryz.prog joinRen := {
  sizeBuilder := by kernel_rfl
  liesBuilder := by kernel_rfl
  t5 := Tryz.underlying5
  a5 := Tryz.isAgg5
  z5 := Tryz.sizeOf5
  v5 := Tryz.zeroValue5
  infoByte := by kernel_rfl
  cellsByte := by kernel_rfl
  sizeByte := by kernel_rfl
  neB5 := by decide }
theorem join_ok (bk o c : Nat) (xs : List ByteArray) (sep : ByteArray) (w : World) (hcells : ∀ (j : Nat) x, xs[j]? = some x → w.cell? ⟨bk, o + j, none⟩ = some (.string x)) (hbk : bk < w.heap.size) (hN : xs.length ≤ 140737488355328) (hcap : xs.length ≤ c) (hlen : (Lib.join (xs.map (·.data.toList)) sep.data.toList).length ≤ 140737488355328) :
    Calls Tryz.prog 365 #[.slice (some ⟨bk, o, none⟩) xs.length c, .string sep] w fun e w' => e = .returned (.string ⟨(Lib.join (xs.map (·.data.toList)) sep.data.toList).toArray⟩) ∧ Below w.heap.size w w' := Any.strings_Join joinLays joinExtra bk o c xs sep w hcells hbk hN hcap hlen
theorem join3_ok (a b c sep r : ByteArray) (hr : (⟨(Lib.join [a.data.toList, b.data.toList, c.data.toList] sep.data.toList).toArray⟩ : ByteArray) = r) (hl : (Lib.join [a.data.toList, b.data.toList, c.data.toList] sep.data.toList).length ≤ 140737488355328) (β : Env) (w : World) (hh : (Ob.box [.b (.v (.string a)), .b (.v (.string b)), .b (.v (.string c))] 9).holds β w (β 0)) :
    Calls Tryz.prog 365 (([.one (.c (.b (.s 0 0 3 3))), .one (.c (.b (.v (.string sep))))] : List SV).map (SV.den β)).toArray w fun e w' => e = .returned (.string r) ∧ Below w.heap.size w w' := by
  rw [← hr]
  refine join_ok (β 0).b 0 3 [a, b, c] sep w (fun j x hx => ?_) (heap_lt hh.2) (show 3 ≤ 140737488355328 by decide) (Nat.le_refl _) hl
  refine cell_lay hh.2 ?_
  rw [Nat.zero_add]
  match j, hx with
  | 0, hx => simp only [List.getElem?_cons_zero] at hx; obtain rfl := Option.some.inj hx; rfl
  | 1, hx => simp only [List.getElem?_cons_succ, List.getElem?_cons_zero] at hx; obtain rfl := Option.some.inj hx; rfl
  | 2, hx => simp only [List.getElem?_cons_succ, List.getElem?_cons_zero] at hx; obtain rfl := Option.some.inj hx; rfl
  | j + 3, hx => simp at hx
def sJoin3 (a b c sep r : ByteArray) (hr : (⟨(Lib.join [a.data.toList, b.data.toList, c.data.toList] sep.data.toList).toArray⟩ : ByteArray) = r) (hl : (Lib.join [a.data.toList, b.data.toList, c.data.toList] sep.data.toList).length ≤ 140737488355328) : BSpec Tryz.prog :=
  ⟨365, Tryz.call365, [.one (.c (.b (.s 0 0 3 3))), .one (.c (.b (.v (.string sep))))], [.b (.v (.string a)), .b (.v (.string b)), .b (.v (.string c))], 9, .string r, join3_ok a b c sep r hr hl, by kernel_rfl, fun _ => rfl⟩
end Go.Proofs.YtfnmclgicjmapaaGreat
end
