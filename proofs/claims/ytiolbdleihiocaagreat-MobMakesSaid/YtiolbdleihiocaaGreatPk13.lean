/- TxB, MoD, Wks, Yd, MkB, Open, OpnB, OpnC. -/
import Derived.ProofKit
import Derived.OpenShut
import Derived.ShutString
import Derived.ChangeOld
import Derived.Below
import Derived.Test.YtiolbdleihiocaaGreatPk12
set_option linter.unnecessarySimpa false
set_option linter.unusedVariables false
set_option linter.unusedSimpArgs false
section
namespace Go.Proofs.YtiolbdleihiocaaGreat
theorem mag_1 : mag 1 = ⟨#[1]⟩ := by unfold mag; rw [led_pos 1 (by decide), led_zero]; rfl
theorem mag_2 : mag 2 = ⟨#[2]⟩ := by unfold mag; rw [led_pos 2 (by decide), led_zero]; rfl
theorem mag_0 : mag 0 = ⟨#[]⟩ := by unfold mag; rw [led_zero]; rfl
theorem dig_1 : dig 1 = [1] := by rw [dig_pos 1 (by decide), dig_zero]
theorem dig_2 : dig 2 = [2] := by rw [dig_pos 2 (by decide), dig_zero]
end Go.Proofs.YtiolbdleihiocaaGreat
namespace Go.Proofs.YtiolbdleihiocaaGreat.Y
open Go Go.RowKit
set_option maxRecDepth 100000
def WR (xs : List Nat) (w : World) (g : Pl) : Prop := (∀ c, ¬ g.F c) ∧ Words w (.slice (g.v 0) xs.length (g.c 0)) xs
theorem wr_stable (xs : List Nat) : Stable (WR xs) :=
  ⟨fun w g ⟨h, _⟩ c hc => (h c hc).elim, fun w w' g ⟨h, k⟩ hb => ⟨h, k.below hb⟩, fun w w' g b o m n ⟨h, k⟩ hs ht _ => ⟨h, Words.touch k hs ht⟩⟩
def wrT (xs : List Nat) : Thing := thing (WR xs) (wr_stable xs)
def wPl (A : Option Addr) (c : Nat) : Pl := ⟨0, fun _ => A, fun _ => c, fun _ => False, fun _ => undef⟩
theorem words_ok {s : ByteArray} {n : Nat} {xs : List Nat} (hs : s = mag n) (hm : s.size ≤ 4294967296) (hx : dig n = xs) (β : Env) (w : World) :
    Calls Tryz.prog 265 #[.string s] w fun e w' => ∃ ys : List Pl, freshS β w 0 ys ∧ e = .returned ((SV.one (.c (.b (.y 0 0 xs.length)))).den (extE β 0 ys)) ∧ newHold w' [wrT xs] ys ∧ Below w.heap.size w w' := by
  refine (words_any s n hs hm).mono fun e w' ⟨A, c, he, h1, h2⟩ => ⟨[wPl A c], fun x hx c hc => ?_, ?_, ⟨⟨fun _ h => h, ?_⟩, trivial⟩, h2⟩
  · rw [List.mem_singleton.1 hx] at hc; exact hc.elim
  · rw [he, hx]; rfl
  · rw [hx] at h1; exact h1
def sWords {s : ByteArray} {n : Nat} {xs : List Nat} (hs : s = mag n) (hm : s.size ≤ 4294967296) (hx : dig n = xs) {l : Nat} (hl : xs.length = l) : Spec Tryz.prog :=
  ⟨265, Tryz.call265, [.one (.c (.b (.v (.string s))))], [], .one (.c (.b (.y 0 0 l))), [wrT xs], fun β w _ => by rw [← hl]; exact words_ok hs hm hx β w, by kernel_rfl⟩
theorem small_ok {xs : List Nat} {d : Nat} (h1 : xs.length ≤ 17179869184) (hd0 : 0 < d) (hd : d < 4294967296) {ys : List Nat} (hq : dig (val xs / d) = ys) {r : Nat} (hr : val xs % d = r) (β : Env) (w : World) (hh : (wrT xs).D w (β 0)) :
    Calls Tryz.prog 281 #[.slice ((β 0).v 0) xs.length ((β 0).c 0), .int .u64 (d : Int)] w fun e w' => ∃ zs : List Pl, freshS β w 1 zs ∧ e = .returned ((SV.tup [.c (.b (.y 1 0 ys.length)), .c (.b (.v (.int .u64 (r : Int))))]).den (extE β 1 zs)) ∧ newHold w' [wrT ys] zs ∧ Below w.heap.size w w' := by
  refine (small_any hh.2 h1 d hd0 hd).mono fun e w' ⟨v, he, h2, h3⟩ => ?_
  rw [hq] at h2
  obtain ⟨A, c, rfl, hc⟩ := h2.shape
  refine ⟨[wPl A c], fun x hx c hc => ?_, ?_, ⟨⟨fun _ h => h, h2⟩, trivial⟩, h3⟩
  · rw [List.mem_singleton.1 hx] at hc; exact hc.elim
  · rw [he, hr]; rfl
def sSmall {xs : List Nat} {d : Nat} (h1 : xs.length ≤ 17179869184) (hd0 : 0 < d) (hd : d < 4294967296) {ys : List Nat} (hq : dig (val xs / d) = ys) {r : Nat} (hr : val xs % d = r) {l m : Nat} (hl : xs.length = l) (hm : ys.length = m) : Spec Tryz.prog :=
  ⟨281, Tryz.call281, [.one (.c (.b (.y 0 0 l))), .one (.c (.b (.v (.int .u64 (d : Int)))))], [wrT xs], .tup [.c (.b (.y 1 0 m)), .c (.b (.v (.int .u64 (r : Int))))], [wrT ys], fun β w hh => by
    rw [← hl, ← hm]; exact small_ok h1 hd0 hd hq hr β w (hh 0 _ rfl), by kernel_rfl⟩
theorem u8_some : (Tryz.prog.info? 5).isSome = true := by kernel_rfl
noncomputable def appB : AppT Tryz.prog :=
  ⟨232, 5, (Tryz.prog.info? 5).get u8_some, .int .u8 0, 1, 1, Tryz.underlying232, (Option.some_get u8_some).symm, by kernel_rfl, by kernel_rfl, by kernel_rfl, rfl, by decide, by decide⟩
abbrev tS (s : ByteArray) : SV := .one (.c (.b (.v (.string s))))
abbrev tW (b : Bool) (s : ByteArray) : SV := .one (.a [.b (.v (.bool b)), .b (.v (.string s))])
def smE1 : Ev Tryz.prog := (sSmall (xs := [1]) (d := 1000000000) (by decide) (by decide) (by decide) (ys := []) (by rw [show val [1] / 1000000000 = 0 by decide]; exact dig_zero) (r := 1) (by decide) (l := 1) rfl (m := 0) rfl).e
def smE2 : Ev Tryz.prog := (sSmall (xs := [2]) (d := 1000000000) (by decide) (by decide) (by decide) (ys := []) (by rw [show val [2] / 1000000000 = 0 by decide]; exact dig_zero) (r := 2) (by decide) (l := 1) rfl (m := 0) rfl).e
noncomputable def sTxtM1 : Spec Tryz.prog := Spec.auto Tryz.call252 [tW true ⟨#[1]⟩] [] (tS ⟨#[45, 49]⟩) []
  [(sWords (s := ⟨#[1]⟩) (n := 1) mag_1.symm (by decide) dig_1 (l := 1) rfl).e, smE1, .app appB, .app appB] [] 3000 Tryz.func252 hmA (by kernel_rfl) (fun β => by kernel_rfl)
noncomputable def sTxt2 : Spec Tryz.prog := Spec.auto Tryz.call252 [tW false ⟨#[2]⟩] [] (tS ⟨#[50]⟩) []
  [(sWords (s := ⟨#[2]⟩) (n := 2) mag_2.symm (by decide) dig_2 (l := 1) rfl).e, smE2, .app appB] [] 3000 Tryz.func252 hmA (by kernel_rfl) (fun β => by kernel_rfl)
end Go.Proofs.YtiolbdleihiocaaGreat.Y
end
section
namespace Go.Proofs.YtiolbdleihiocaaGreat.Y
open Go Go.RowKit
set_option maxRecDepth 100000
noncomputable def sIsA {m n : MQ} (h : MSz KE m) (k : MSz KE n) (ht : m.t = false) (hu : n.t = false) (h0 : gzero (gsub m.a n.a) = false) : Spec Tryz.prog :=
  ⟨219, Tryz.call219, [mV 0 m, mV 8 n], mM m ++ mM n, .one (.c (.b (.v (.bool false)))), [], fun β w hh => by
    obtain ⟨a, b, c, d, t⟩ := m
    obtain ⟨a', b', c', d', t'⟩ := n
    cases ht
    cases hu
    exact spec_auto (args := [mV 0 ⟨a, b, c, d, false⟩, mV 8 ⟨a', b', c', d', false⟩]) (obs := mM ⟨a, b, c, d, false⟩ ++ mM ⟨a', b', c', d', false⟩) (evs := [(sSame (z := a) (w := a') h.a k.a h0).e]) (Ns := []) (m := 400) Tryz.func219 hmA (fun β => by kernel_rfl) (by kernel_rfl) β w hh, by kernel_rfl⟩
theorem still_sz {t : Bool} : MSz KE (mstill t) := ⟨(GSz.int (by decide) (by decide)).mono (by decide), g0_sz (by decide), g0_sz (by decide), (GSz.int (by decide) (by decide)).mono (by decide)⟩
noncomputable def sOrder2 {m : MQ} (h : MSz 1024 m) (ht : m.t = false) (h0 : gzero (gsub m.a (gint 1 0)) = false) (h1 : gzero (gmul (gadd m.a m.d) (gadd m.a m.d)) = true) : Spec Tryz.prog :=
  ⟨133, Tryz.call133, [mV 0 m], mM m, .one (.c (.b (.v (.int .i64 2)))), [], fun β w hh => by
    obtain ⟨a, b, c, d, t⟩ := m
    cases ht
    have ha : GSz KE (gadd a d) := (h.a.add h.d).mono (by decide)
    exact spec_auto (args := [mV 0 ⟨a, b, c, d, false⟩]) (obs := mM ⟨a, b, c, d, false⟩) (evs := [sStill.e, (sIsA (m := ⟨a, b, c, d, false⟩) (n := mstill false) (h.mono (by decide)) still_sz rfl rfl h0).e, (sAdd (h.a.mono (by decide)) (h.d.mono (by decide))).e, mulE ha ha, (sZero (z := gmul (gadd a d) (gadd a d)) h1).e]) (Ns := [(1, 4)]) (m := 800) Tryz.func133 hmA (fun β => by kernel_rfl) (by kernel_rfl) β w hh, by kernel_rfl⟩
noncomputable def sOrd2 {m : MQ} (h : MayQ m) (ht : m.t = false) (h0 : gzero (gsub m.a (gint 1 0)) = false) (h1 : gzero (gmul (gadd m.a m.d) (gadd m.a m.d)) = true) : Spec Tryz.prog :=
  Spec.auto Tryz.call30 [.one (.a (mCl m))] [] (.tup [.c (.b (.v (.int .i64 2))), .c (.b (.v (.int .i64 0)))]) []
    [(sOpenYes h).e, (sOrder2 (fitM_sz h.1) ht h0 h1).e] [] 800 Tryz.func30 hmA (by kernel_rfl) (fun β => by kernel_rfl)
abbrev tF (b : Bool) (s t : ByteArray) : SV := .one (.a [.b (.v (.bool b)), .b (.v (.string s)), .b (.v (.bool false)), .b (.v (.string t))])
theorem whole1 : wholeV 1 = .agg #[.bool false, .string ⟨#[1]⟩] := by unfold wholeV; rw [show (1 : Int).natAbs = 1 from rfl, mag_1]; rfl
def yWOf1 : Ev Tryz.prog := .ret 207 Tryz.call207 #[.int .i64 1] (.agg #[.bool false, .string ⟨#[1]⟩]) (fun w => by rw [← whole1]; exact rof_any (by decide))
noncomputable def sTxtH : Spec Tryz.prog := Spec.auto Tryz.call191 [tF true ⟨#[1]⟩ ⟨#[2]⟩] [] (tS ⟨#[45, 49, 47, 50]⟩) []
  [yWOf1, eqEvW false false ⟨#[2]⟩ ⟨#[1]⟩ false (by decide +kernel), sTxtM1.e, sTxt2.e] [(1, 4), (3, 9)] 800 Tryz.func191 hmA (by kernel_rfl) (fun β => by kernel_rfl)
abbrev svN0 (k : Int) : SV := .one (.c (.b (.v (.int .i64 k))))
def sSgM : Spec Tryz.prog := Spec.auto Tryz.call222 [tW true ⟨#[1]⟩] [] (svN0 (-1)) [] [] [] 400 Tryz.func222 hmA (by kernel_rfl) (fun β => by kernel_rfl)
def sSg0 : Spec Tryz.prog := Spec.auto Tryz.call222 [tW false ⟨#[]⟩] [] (svN0 0) [] [] [] 400 Tryz.func222 hmA (by kernel_rfl) (fun β => by kernel_rfl)
def sSg3M : Spec Tryz.prog := Spec.auto Tryz.call139 [tF true ⟨#[1]⟩ ⟨#[2]⟩] [] (svN0 (-1)) [] [sSgM.e] [] 400 Tryz.func139 hmA (by kernel_rfl) (fun β => by kernel_rfl)
def sSg30 : Spec Tryz.prog := Spec.auto Tryz.call139 [tF false ⟨#[]⟩ ⟨#[1]⟩] [] (svN0 0) [] [sSg0.e] [] 400 Tryz.func139 hmA (by kernel_rfl) (fun β => by kernel_rfl)
noncomputable def sRealNo : Spec Tryz.prog := Spec.auto Tryz.call71 [.one (.a [.b (.v (.bool false)), .b (.v (.string ⟨#[]⟩)), .b (.v (.bool false)), .b (.v (.string ⟨#[1]⟩)), .b (.v (.bool true)), .b (.v (.string ⟨#[1]⟩)), .b (.v (.bool false)), .b (.v (.string ⟨#[2]⟩))])] [] (.one (.c (.b (.v (.bool false))))) []
  [sSg3M.e] [] 400 Tryz.func71 hmA (by kernel_rfl) (fun β => by kernel_rfl)
noncomputable def sTxtG : Spec Tryz.prog := Spec.auto Tryz.call105 [.one (.a [.b (.v (.bool false)), .b (.v (.string ⟨#[]⟩)), .b (.v (.bool false)), .b (.v (.string ⟨#[1]⟩)), .b (.v (.bool true)), .b (.v (.string ⟨#[1]⟩)), .b (.v (.bool false)), .b (.v (.string ⟨#[2]⟩))])] [] (tS ⟨#[45, 49, 47, 50, 105]⟩) []
  [sTxtH.e, sRealNo.e, sSg30.e] [] 800 Tryz.func105 hmA (by kernel_rfl) (fun β => by kernel_rfl)
end Go.Proofs.YtiolbdleihiocaaGreat.Y
end
section
namespace Go.Proofs.YtiolbdleihiocaaGreat
theorem jz_det : gzero (mdet ⟨gint 0 0, gint 2 0, gint 2 0, gint 0 0, false⟩) = false := by kernel_rfl
def mJ : MQ := ⟨gint 0 0, gint 1 0, gint 1 0, gint 0 0, false⟩
theorem j_norm : mnorm ⟨gint 0 0, gint 2 0, gint 2 0, gint 0 0, false⟩ = mJ := mq_ext (gq_lit (by kernel_rfl) (by kernel_rfl)) (gq_lit (by kernel_rfl) (by kernel_rfl)) (gq_lit (by kernel_rfl) (by kernel_rfl)) (gq_lit (by kernel_rfl) (by kernel_rfl)) rfl
theorem j_inv : minv mJ = mJ := mq_ext (gq_lit (by kernel_rfl) (by kernel_rfl)) (gq_lit (by kernel_rfl) (by kernel_rfl)) (gq_lit (by kernel_rfl) (by kernel_rfl)) (gq_lit (by kernel_rfl) (by kernel_rfl)) rfl
theorem j_fit : FitM mJ := ⟨fit_int (by decide) (by decide), fit_int (by decide) (by decide), fit_int (by decide) (by decide), fit_int (by decide) (by decide)⟩
theorem z2_fit : FitM ⟨gint 0 0, gint 2 0, gint 2 0, gint 0 0, false⟩ := ⟨fit_int (by decide) (by decide), fit_int (by decide) (by decide), fit_int (by decide) (by decide), fit_int (by decide) (by decide)⟩
def gH : GQ := ⟨Rat.divInt 0 1, Rat.divInt (-1) 2⟩
theorem j_half : msend mJ (.fin (gint 0 2)) false = .fin gH := congrArg Pt.fin (gq_lit (by kernel_rfl) (by kernel_rfl))
theorem j_msD : gzero (msD mJ (.fin (gint 0 2))) = false := by kernel_rfl
theorem h_parts : gH.re.num = 0 ∧ gH.re.den = 1 ∧ gH.im.num = -1 ∧ gH.im.den = 2 := by decide +kernel
theorem h_fit : FitP (.fin gH) := fit_small (by rw [h_parts.1]; decide) (by rw [h_parts.2.1]; decide) (by rw [h_parts.2.2.1]; decide) (by rw [h_parts.2.2.2]; decide)
theorem h_cells : paC (.fin gH) = [.b (.v (.bool false)), .b (.v (.bool false)), .b (.v (.string ⟨#[]⟩)), .b (.v (.bool false)), .b (.v (.string ⟨#[1]⟩)), .b (.v (.bool true)), .b (.v (.string ⟨#[1]⟩)), .b (.v (.bool false)), .b (.v (.string ⟨#[2]⟩))] := by
  rw [paC_raw, (pa_fit h_fit).1, (pa_fit h_fit).2.1, (pa_fit h_fit).2.2]
  show rawC false (fR gH.re) (fR gH.im) = _
  unfold fR
  rw [h_parts.1, h_parts.2.1, h_parts.2.2.1, h_parts.2.2.2, show (0 : Int).natAbs = 0 from rfl, show (-1 : Int).natAbs = 1 from rfl, mag_0, mag_1, mag_2]
  rfl
def mK : MQ := ⟨gint 0 0, gint (-2) 0, gint 1 0, gint (-2) 0, false⟩
theorem k_of : mof (pI 0 0) (pI 1 0) (pI 2 0) (pI 1 0) (pI 2 0) .inf false = mK := mq_ext (gq_lit (by kernel_rfl) (by kernel_rfl)) (gq_lit (by kernel_rfl) (by kernel_rfl)) (gq_lit (by kernel_rfl) (by kernel_rfl)) (gq_lit (by kernel_rfl) (by kernel_rfl)) rfl
theorem k_fit : FitM mK := ⟨fit_int (by decide) (by decide), fit_int (by decide) (by decide), fit_int (by decide) (by decide), fit_int (by decide) (by decide)⟩
theorem k_six : Six (pI 0 0) (pI 1 0) (pI 2 0) (pI 1 0) (pI 2 0) .inf := ⟨pI_ne (by decide), pI_ne (by decide), pI_ne (by decide), pI_ne (by decide), (fun e => by cases e), (fun e => by cases e)⟩
theorem k_p6 : P6 (pI 0 0) (pI 1 0) (pI 2 0) (pI 1 0) (pI 2 0) .inf FitP := ⟨pI_fit (by decide) (by decide), pI_fit (by decide) (by decide), pI_fit (by decide) (by decide), pI_fit (by decide) (by decide), pI_fit (by decide) (by decide), trivial⟩
end Go.Proofs.YtiolbdleihiocaaGreat
namespace Go.Proofs.YtiolbdleihiocaaGreat.Y
open Go Go.RowKit
set_option maxRecDepth 100000
theorem j_may : MayQ mJ := ⟨j_fit, by kernel_rfl, .inl (by kernel_rfl)⟩
abbrev q2 (n m : Int) : Pt := .fin (gint n m)
noncomputable def kMake : Spec Tryz.prog :=
  (sMake (m := ⟨gint 0 0, gint 2 0, gint 2 0, gint 0 0, false⟩) z2_fit jz_det).as [gS (gint 0 0), gS (gint 2 0), gS (gint 2 0), gS (gint 0 0), tB' false] (.tup [.a (lsX (mC mJ)), nI' 0]) rfl (by
    show SV.tup [.a (lsX (maC (mnorm ⟨gint 0 0, gint 2 0, gint 2 0, gint 0 0, false⟩))), nI' (maK (mnorm ⟨gint 0 0, gint 2 0, gint 2 0, gint 0 0, false⟩))] = _
    rw [j_norm, (maC_fit j_fit).1, (maC_fit j_fit).2])
noncomputable def kwAt : Spec Tryz.prog :=
  (sAt j_may (p := q2 0 2) (fit_int (by decide) (by decide)) j_msD).as [.one (.a (mCl mJ)), .one (.a (lsX (q2 0 2).w.C))] (.tup [.a [.b (.v (.bool false)), .b (.v (.bool false)), .b (.v (.string ⟨#[]⟩)), .b (.v (.bool false)), .b (.v (.string ⟨#[1]⟩)), .b (.v (.bool true)), .b (.v (.string ⟨#[1]⟩)), .b (.v (.bool false)), .b (.v (.string ⟨#[2]⟩))], nI' 0]) rfl (by
    show SV.tup [.a (lsX (paC (msend mJ (q2 0 2) false))), nI' (paK (msend mJ (q2 0 2) false))] = _
    rw [j_half, paK_fit h_fit, h_cells])
noncomputable def kInv : Spec Tryz.prog :=
  (sInv j_may).as [.one (.a (mCl mJ))] (.tup [.a (lsX (mC mJ)), nI' 0]) rfl (by
    show SV.tup [.a (lsX (maC (minv mJ))), nI' (maK (minv mJ))] = _
    rw [j_inv, (maC_fit j_fit).1, (maC_fit j_fit).2])
noncomputable def kOrd : Spec Tryz.prog := sOrd2 j_may rfl (by kernel_rfl) (by kernel_rfl)
noncomputable def kOf : Spec Tryz.prog :=
  (sOf3 k_p6 false k_six).as [a3 (q2 0 0).w (q2 1 0).w (q2 2 0).w, a3 (q2 1 0).w (q2 2 0).w Pt.inf.w, tB false] (.tup [.a (lsX (mC mK)), nI' 0]) rfl (by
    show SV.tup [.a (lsX (maC (mof (q2 0 0) (q2 1 0) (q2 2 0) (q2 1 0) (q2 2 0) .inf false))), nI' (maK (mof (q2 0 0) (q2 1 0) (q2 2 0) (q2 1 0) (q2 2 0) .inf false))] = _
    rw [k_of, (maC_fit k_fit).1, (maC_fit k_fit).2])
def eqEvM1 (a a' b b' c c' d d' : R4) (t : Bool) : Ev Tryz.prog :=
  eqEv 35 (Go.Proofs.YtiolbdleihiocaaGreat.mV a a' b b' c c' d d' t) (Go.Proofs.YtiolbdleihiocaaGreat.mV a a' b b' c c' d d' t) true (by kernel_rfl) (fun w => by
    have h := eqM (w := w) 9995 a a' b b' c c' d d' t a a' b b' c c' d d' t
    rw [geq_self, geq_self, geq_self, geq_self, show (t == t) = true from beq_self_eq_true t] at h
    exact h)
def eqMC1 (m : MQ) : Ev Tryz.prog := eqEvM1 (fR m.a.re) (fR m.a.im) (fR m.b.re) (fR m.b.im) (fR m.c.re) (fR m.c.im) (fR m.d.re) (fR m.d.im) m.t
noncomputable def nX (k : Int) : Ev Tryz.prog := (Spec.ofX (sNum8 k) rfl rfl).e
noncomputable def inX (n m : Int) (hn : -9223372036854775808 ≤ n ∧ n ≤ 9223372036854775807 := by decide) (hm : -9223372036854775808 ≤ m ∧ m ≤ 9223372036854775807 := by decide) : Ev Tryz.prog := (Spec.ofX (sIn8 n m hn hm) rfl rfl).e
noncomputable def atX (n m : Int) (hn : -9223372036854775808 ≤ n ∧ n ≤ 9223372036854775807 := by decide) (hm : -9223372036854775808 ≤ m ∧ m ≤ 9223372036854775807 := by decide) : Ev Tryz.prog := (Spec.ofX (sAt8 n m hn hm) rfl rfl).e
noncomputable def sWorks : Spec Tryz.prog :=
  Spec.auto Tryz.call14 [] [] (.one (.c (.b (.v (.bool true))))) []
    [inX 0 0, inX 2 0, inX 2 0, inX 0 0, kMake.e, atX 0 2, kwAt.e, kInv.e, kOrd.e, atX 0 0, atX 1 0, atX 2 0, atX 1 0, atX 2 0, kOf.e,
     nX 0, nX 0, sTxtG.e, nX 0, eqMC1 mJ, nX 0, nX 0, inX 0 0, inX (-2) 0, inX 1 0, inX (-2) 0, eqMC1 mK] [(2, 2007008), (6, 48)] 1200 Tryz.func14 hmA (by kernel_rfl) (fun β => by kernel_rfl)
end Go.Proofs.YtiolbdleihiocaaGreat.Y
end
section
namespace Go.Proofs.YtiolbdleihiocaaGreat.Y
open Go Go.RowKit
theorem spec_yes {P : Program} (S : Spec P) (ho : S.obs = []) (hr : S.res = .one (.c (.b (.v (.bool true))))) (w : World) : Calls P S.f (S.args.map (SV.den idE)).toArray w fun e w' => e = .returned (.bool true) ∧ Below w.heap.size w w' := by
  refine (S.ok idE w (by rw [ho]; intro k t h; simp at h)).mono ?_
  rintro e w' ⟨xs, _, rfl, _, hb⟩
  exact ⟨by rw [hr]; rfl, hb⟩
end Go.Proofs.YtiolbdleihiocaaGreat.Y
end
section
namespace Go.Proofs.YtiolbdleihiocaaGreat.Y
open Go Go.RowKit
set_option maxRecDepth 100000
theorem rL_inj {x y : R4} (h : rL x = rL y) : x = y := by
  obtain ⟨b, s, c, t⟩ := x
  obtain ⟨b', s', c', t'⟩ := y
  simp only [rL, List.cons.injEq, Lf.b.injEq, Lf0.v.injEq, Value.bool.injEq, Value.string.injEq, and_true] at h
  obtain ⟨rfl, rfl, rfl, rfl⟩ := h
  rfl
inductive Gn where
  | ok (z : GQ) (h : FitG z)
  | no (g : Gp) (h : g.B = false)
def Gn.gp : Gn → Gp
  | .ok z h => gpX z h
  | .no g _ => g
def Gn.x (g : Gn) : R4 := g.gp.a.r
def Gn.y (g : Gn) : R4 := g.gp.b.r
def Gn.B : Gn → Bool
  | .ok .. => true
  | .no .. => false
theorem Gn.gpB : ∀ g : Gn, g.gp.B = g.B
  | .ok .. => rfl
  | .no _ h => h
def Gn.z : Gn → GQ
  | .ok z _ => z
  | .no .. => g0
theorem fr_of (r : R4) (h : r.s.size ≤ maxLen ∧ r.t.size ≤ maxLen) : ∃ a : Fr, a.r = r := by
  obtain ⟨a, ha⟩ := fp_of r h.1 h.2
  exact ⟨⟨r, a, by rw [← ha]; cases a <;> rfl⟩, rfl⟩
theorem gn_of (x y : R4) (hx : x.s.size ≤ maxLen ∧ x.t.size ≤ maxLen) (hy : y.s.size ≤ maxLen ∧ y.t.size ≤ maxLen) : ∃ g : Gn, g.x = x ∧ g.y = y := by
  obtain ⟨a, rfl⟩ := fr_of x hx
  obtain ⟨b, rfl⟩ := fr_of y hy
  cases h : (Gp.mk a b).B with
  | false => exact ⟨.no ⟨a, b⟩ h, rfl, rfl⟩
  | true =>
    have h' := Bool.and_eq_true_iff.1 h
    obtain ⟨ra, fa, ea⟩ := a
    obtain ⟨rb, fb, eb⟩ := b
    cases fa with
    | no => cases h'.1
    | ok x hx2 => cases fb with
      | no => cases h'.2
      | ok y hy2 =>
        refine ⟨.ok ⟨x, y⟩ ⟨hx2, hy2⟩, rL_inj ?_, rL_inj ?_⟩
        · exact ea
        · exact eb
def Gn.zq (a : Gn) : Bool := gzero a.z
abbrev four (a b c d : Gn) (t : Bool) : MQ := ⟨a.z, b.z, c.z, d.z, t⟩
def fourL (a b c d : Gn) (t : Bool) : List Lf := rL a.x ++ rL a.y ++ rL b.x ++ rL b.y ++ rL c.x ++ rL c.y ++ rL d.x ++ rL d.y ++ [.b (.v (.bool t))]
noncomputable def slE : Gn → Ev Tryz.prog
  | .ok _ h => (sSlide h).e
  | .no g h => (sSlideNo g h).e
noncomputable def strE : (a : Gn) → {r : Bool} → a.zq = r → Ev Tryz.prog
  | .ok _ h, true, k => (sStretch0 h k).e
  | .ok _ h, false, k => (sStretch h k).e
  | .no g h, _, _ => (sStretchNo g h).e
theorem fitM_le {m : MQ} (h : FitM m) : MSz KD m := (fitM_sz h).mono (by decide)
noncomputable def makE (a b c d : Gn) (t : Bool) {r : Bool} (h : gzero (mdet (four a b c d t)) = r) : Ev Tryz.prog := match a, b, c, d, r, h with
  | .ok za ha, .ok zb hb, .ok zc hc, .ok zd hd, true, h => (sMakeFlat (m := ⟨za, zb, zc, zd, t⟩) ⟨ha, hb, hc, hd⟩ h).e
  | .ok za ha, .ok zb hb, .ok zc hc, .ok zd hd, false, h => (sMake (m := ⟨za, zb, zc, zd, t⟩) ⟨ha, hb, hc, hd⟩ h).e
  | a, b, c, d, _, _ => if k : (a.B && (b.B && (c.B && d.B))) = false then (sMakeNo a.gp b.gp c.gp d.gp t a.gpB b.gpB c.gpB d.gpB k).e else .cut
noncomputable def mayG (a : Gn) : Ev Tryz.prog := (sG4May a.gp a.gpB).e
noncomputable def prtB : Gn → List (Ev Tryz.prog)
  | .ok z _ => [(sIs8 (mslide z)).e]
  | .no .. => [eqM0, (sNum8 2).e]
noncomputable def prtA : (a : Gn) → {r : Bool} → a.zq = r → List (Ev Tryz.prog)
  | .ok z _, true, k => [(sR4Zero z k).e, eqM0, (sNum8 180).e]
  | .ok z _, false, k => [(sR4Zero z k).e, (sIs8 (mstr z)).e]
  | .no .., _, _ => [eqM0, (sNum8 2).e]
noncomputable def may4G (a b c d : Gn) : List (Ev Tryz.prog) :=
  mayG a :: (bif a.B then mayG b :: (bif b.B then mayG c :: (bif c.B then [mayG d] else []) else []) else [])
noncomputable def endE (a b c d : Gn) (t : Bool) {r : Bool} (h : gzero (mdet (four a b c d t)) = r) : List (Ev Tryz.prog) := match a, b, c, d, r, h with
  | .ok za ha, .ok zb hb, .ok zc hc, .ok zd hd, true, h => [(sR8Make0 (m := ⟨za, zb, zc, zd, t⟩) (fitM_le ⟨ha, hb, hc, hd⟩) h).e, sIs8F.e, sOne.e, sR8One.e, eqMC (mid false), sWorks.e]
  | .ok za ha, .ok zb hb, .ok zc hc, .ok zd hd, false, h => [(sR8Make (m := ⟨za, zb, zc, zd, t⟩) (fitM_le ⟨ha, hb, hc, hd⟩) h).e, (sIs8 (mnorm ⟨za, zb, zc, zd, t⟩)).e, sOne.e, sR8One.e, eqMC (mid false), sWorks.e]
  | _, _, _, _, _, _ => [eqM0, (sNum8 2).e, sWorks.e]
structure Lg4 (a b c d : Gn) (r : Bool) : Prop where
  is : ∃ x0 y0 x1 y1 x2 y2 x3 y3 : Bool, LgF a.x x0 ∧ LgF a.y y0 ∧ LgF b.x x1 ∧ LgF b.y y1 ∧ LgF c.x x2 ∧ LgF c.y y2 ∧ LgF d.x x3 ∧ LgF d.y y3 ∧ (x0 || (y0 || (x1 || (y1 || (x2 || (y2 || (x3 || y3))))))) = r
theorem Lg4.all (a b c d : Gn) : ∃ r, Lg4 a b c d r := by
  obtain ⟨x0, h0⟩ := LgF.all a.x
  obtain ⟨y0, k0⟩ := LgF.all a.y
  obtain ⟨x1, h1⟩ := LgF.all b.x
  obtain ⟨y1, k1⟩ := LgF.all b.y
  obtain ⟨x2, h2⟩ := LgF.all c.x
  obtain ⟨y2, k2⟩ := LgF.all c.y
  obtain ⟨x3, h3⟩ := LgF.all d.x
  obtain ⟨y3, k3⟩ := LgF.all d.y
  exact ⟨_, ⟨x0, y0, x1, y1, x2, y2, x3, y3, h0, k0, h1, k1, h2, k2, h3, k3, rfl⟩⟩
def sLong4 (T : TypeId) (a b c d : Gn) {r : Bool} (h : Lg4 a b c d r) : BSpec Tryz.prog :=
  ⟨34, Tryz.call34, lgA, lgCells a.x a.y b.x b.y c.x c.y d.x d.y, T, .bool r, fun β w hh => by
    obtain ⟨x0, y0, x1, y1, x2, y2, x3, y3, h0, k0, h1, k1, h2, k2, h3, k3, rfl⟩ := h.is
    exact long4_ok h0 k0 h1 k1 h2 k2 h3 k3 β w hh, by kernel_rfl, fun _ => rfl⟩
noncomputable def mk1w (a b c d : Gn) (t : Bool) (h : Lg4 a b c d true) : Spec Tryz.prog :=
  Spec.auto Tryz.call6 [.one (.a (fourL a b c d t))] [] (svB true) [] [(sLong4 27 a b c d h).e, sWorks.e] [] 1200 Tryz.func6 hmA (by kernel_rfl) (fun β => by kernel_rfl)
noncomputable def mkwE (a b c d : Gn) (t : Bool) (h : Lg4 a b c d false) {r z : Bool} (hr : gzero (mdet (four a b c d t)) = r) (hz : a.zq = z) : List (Ev Tryz.prog) :=
  [(sLong4 27 a b c d h).e, makE a b c d t hr, slE b, strE a hz, (sIn8 0 0).e, (sIn8 1 0).e, mayG b] ++ prtB b ++ [mayG a] ++ prtA a hz ++ may4G a b c d ++ endE a b c d t hr
abbrev MkCall (a b c d : Gn) (t : Bool) (β : Env) (w : World) : Prop :=
  Calls Tryz.prog 6 (([.one (.a (fourL a b c d t))] : List SV).map (SV.den β)).toArray w fun e w' => ∃ xs : List Pl, freshS β w ([] : List Thing).length xs ∧ e = .returned ((svB true).den (extE β ([] : List Thing).length xs)) ∧ newHold w' [] xs ∧ Below w.heap.size w w'
abbrev NoTh (β : Env) (w : World) : Prop := ∀ (k : Nat) (t : Thing), ([] : List Thing)[k]? = some t → t.D w (β k)
theorem mkw0 (ga : Gp) (na : ga.B = false) (zb : GQ) (hb : FitG zb) (c : Gn) (d : Gn) (t : Bool) {z : Bool} {r : Bool} (h : Lg4 (.no ga na) (.ok zb hb) c d false) (hr : gzero (mdet (four (.no ga na) (.ok zb hb) c d t)) = r) (hz : Gn.zq (.no ga na) = z) (β : Env) (w : World) (hh : NoTh β w) : MkCall (.no ga na) (.ok zb hb) c d t β w :=
  spec_auto (evs := mkwE (.no ga na) (.ok zb hb) c d t h hr hz) (Ns := []) (m := 1200) Tryz.func6 hmA (fun β => by kernel_rfl) (by kernel_rfl) β w hh
theorem mkw1 (ga : Gp) (na : ga.B = false) (gb : Gp) (nb : gb.B = false) (c : Gn) (d : Gn) (t : Bool) {z : Bool} {r : Bool} (h : Lg4 (.no ga na) (.no gb nb) c d false) (hr : gzero (mdet (four (.no ga na) (.no gb nb) c d t)) = r) (hz : Gn.zq (.no ga na) = z) (β : Env) (w : World) (hh : NoTh β w) : MkCall (.no ga na) (.no gb nb) c d t β w :=
  spec_auto (evs := mkwE (.no ga na) (.no gb nb) c d t h hr hz) (Ns := []) (m := 1200) Tryz.func6 hmA (fun β => by kernel_rfl) (by kernel_rfl) β w hh
theorem mkw2 (za : GQ) (ha : FitG za) (gb : Gp) (nb : gb.B = false) (c : Gn) (d : Gn) (t : Bool) {r : Bool} (h : Lg4 (.ok za ha) (.no gb nb) c d false) (hr : gzero (mdet (four (.ok za ha) (.no gb nb) c d t)) = r) (hz : Gn.zq (.ok za ha) = true) (β : Env) (w : World) (hh : NoTh β w) : MkCall (.ok za ha) (.no gb nb) c d t β w :=
  spec_auto (evs := mkwE (.ok za ha) (.no gb nb) c d t h hr hz) (Ns := []) (m := 1200) Tryz.func6 hmA (fun β => by kernel_rfl) (by kernel_rfl) β w hh
theorem mkw3 (za : GQ) (ha : FitG za) (zb : GQ) (hb : FitG zb) (gc : Gp) (nc : gc.B = false) (d : Gn) (t : Bool) {r : Bool} (h : Lg4 (.ok za ha) (.ok zb hb) (.no gc nc) d false) (hr : gzero (mdet (four (.ok za ha) (.ok zb hb) (.no gc nc) d t)) = r) (hz : Gn.zq (.ok za ha) = true) (β : Env) (w : World) (hh : NoTh β w) : MkCall (.ok za ha) (.ok zb hb) (.no gc nc) d t β w :=
  spec_auto (evs := mkwE (.ok za ha) (.ok zb hb) (.no gc nc) d t h hr hz) (Ns := []) (m := 1200) Tryz.func6 hmA (fun β => by kernel_rfl) (by kernel_rfl) β w hh
theorem mkw4 (za : GQ) (ha : FitG za) (zb : GQ) (hb : FitG zb) (zc : GQ) (hc : FitG zc) (gd : Gp) (nd : gd.B = false) (t : Bool) {r : Bool} (h : Lg4 (.ok za ha) (.ok zb hb) (.ok zc hc) (.no gd nd) false) (hr : gzero (mdet (four (.ok za ha) (.ok zb hb) (.ok zc hc) (.no gd nd) t)) = r) (hz : Gn.zq (.ok za ha) = true) (β : Env) (w : World) (hh : NoTh β w) : MkCall (.ok za ha) (.ok zb hb) (.ok zc hc) (.no gd nd) t β w :=
  spec_auto (evs := mkwE (.ok za ha) (.ok zb hb) (.ok zc hc) (.no gd nd) t h hr hz) (Ns := []) (m := 1200) Tryz.func6 hmA (fun β => by kernel_rfl) (by kernel_rfl) β w hh
theorem mkw5 (za : GQ) (ha : FitG za) (zb : GQ) (hb : FitG zb) (zc : GQ) (hc : FitG zc) (zd : GQ) (hd : FitG zd) (t : Bool) (h : Lg4 (.ok za ha) (.ok zb hb) (.ok zc hc) (.ok zd hd) false) (hr : gzero (mdet (four (.ok za ha) (.ok zb hb) (.ok zc hc) (.ok zd hd) t)) = true) (hz : Gn.zq (.ok za ha) = true) (β : Env) (w : World) (hh : NoTh β w) : MkCall (.ok za ha) (.ok zb hb) (.ok zc hc) (.ok zd hd) t β w :=
  spec_auto (evs := mkwE (.ok za ha) (.ok zb hb) (.ok zc hc) (.ok zd hd) t h hr hz) (Ns := []) (m := 1200) Tryz.func6 hmA (fun β => by kernel_rfl) (by kernel_rfl) β w hh
theorem mkw6 (za : GQ) (ha : FitG za) (zb : GQ) (hb : FitG zb) (zc : GQ) (hc : FitG zc) (zd : GQ) (hd : FitG zd) (t : Bool) (h : Lg4 (.ok za ha) (.ok zb hb) (.ok zc hc) (.ok zd hd) false) (hr : gzero (mdet (four (.ok za ha) (.ok zb hb) (.ok zc hc) (.ok zd hd) t)) = false) (hz : Gn.zq (.ok za ha) = true) (β : Env) (w : World) (hh : NoTh β w) : MkCall (.ok za ha) (.ok zb hb) (.ok zc hc) (.ok zd hd) t β w :=
  spec_auto (evs := mkwE (.ok za ha) (.ok zb hb) (.ok zc hc) (.ok zd hd) t h hr hz) (Ns := []) (m := 1200) Tryz.func6 hmA (fun β => by kernel_rfl) (by kernel_rfl) β w hh
theorem mkw7 (za : GQ) (ha : FitG za) (gb : Gp) (nb : gb.B = false) (c : Gn) (d : Gn) (t : Bool) {r : Bool} (h : Lg4 (.ok za ha) (.no gb nb) c d false) (hr : gzero (mdet (four (.ok za ha) (.no gb nb) c d t)) = r) (hz : Gn.zq (.ok za ha) = false) (β : Env) (w : World) (hh : NoTh β w) : MkCall (.ok za ha) (.no gb nb) c d t β w :=
  spec_auto (evs := mkwE (.ok za ha) (.no gb nb) c d t h hr hz) (Ns := []) (m := 1200) Tryz.func6 hmA (fun β => by kernel_rfl) (by kernel_rfl) β w hh
theorem mkw8 (za : GQ) (ha : FitG za) (zb : GQ) (hb : FitG zb) (gc : Gp) (nc : gc.B = false) (d : Gn) (t : Bool) {r : Bool} (h : Lg4 (.ok za ha) (.ok zb hb) (.no gc nc) d false) (hr : gzero (mdet (four (.ok za ha) (.ok zb hb) (.no gc nc) d t)) = r) (hz : Gn.zq (.ok za ha) = false) (β : Env) (w : World) (hh : NoTh β w) : MkCall (.ok za ha) (.ok zb hb) (.no gc nc) d t β w :=
  spec_auto (evs := mkwE (.ok za ha) (.ok zb hb) (.no gc nc) d t h hr hz) (Ns := []) (m := 1200) Tryz.func6 hmA (fun β => by kernel_rfl) (by kernel_rfl) β w hh
theorem mkw9 (za : GQ) (ha : FitG za) (zb : GQ) (hb : FitG zb) (zc : GQ) (hc : FitG zc) (gd : Gp) (nd : gd.B = false) (t : Bool) {r : Bool} (h : Lg4 (.ok za ha) (.ok zb hb) (.ok zc hc) (.no gd nd) false) (hr : gzero (mdet (four (.ok za ha) (.ok zb hb) (.ok zc hc) (.no gd nd) t)) = r) (hz : Gn.zq (.ok za ha) = false) (β : Env) (w : World) (hh : NoTh β w) : MkCall (.ok za ha) (.ok zb hb) (.ok zc hc) (.no gd nd) t β w :=
  spec_auto (evs := mkwE (.ok za ha) (.ok zb hb) (.ok zc hc) (.no gd nd) t h hr hz) (Ns := []) (m := 1200) Tryz.func6 hmA (fun β => by kernel_rfl) (by kernel_rfl) β w hh
theorem mkw10 (za : GQ) (ha : FitG za) (zb : GQ) (hb : FitG zb) (zc : GQ) (hc : FitG zc) (zd : GQ) (hd : FitG zd) (t : Bool) (h : Lg4 (.ok za ha) (.ok zb hb) (.ok zc hc) (.ok zd hd) false) (hr : gzero (mdet (four (.ok za ha) (.ok zb hb) (.ok zc hc) (.ok zd hd) t)) = true) (hz : Gn.zq (.ok za ha) = false) (β : Env) (w : World) (hh : NoTh β w) : MkCall (.ok za ha) (.ok zb hb) (.ok zc hc) (.ok zd hd) t β w :=
  spec_auto (evs := mkwE (.ok za ha) (.ok zb hb) (.ok zc hc) (.ok zd hd) t h hr hz) (Ns := []) (m := 1200) Tryz.func6 hmA (fun β => by kernel_rfl) (by kernel_rfl) β w hh
theorem mkw11 (za : GQ) (ha : FitG za) (zb : GQ) (hb : FitG zb) (zc : GQ) (hc : FitG zc) (zd : GQ) (hd : FitG zd) (t : Bool) (h : Lg4 (.ok za ha) (.ok zb hb) (.ok zc hc) (.ok zd hd) false) (hr : gzero (mdet (four (.ok za ha) (.ok zb hb) (.ok zc hc) (.ok zd hd) t)) = false) (hz : Gn.zq (.ok za ha) = false) (β : Env) (w : World) (hh : NoTh β w) : MkCall (.ok za ha) (.ok zb hb) (.ok zc hc) (.ok zd hd) t β w :=
  spec_auto (evs := mkwE (.ok za ha) (.ok zb hb) (.ok zc hc) (.ok zd hd) t h hr hz) (Ns := []) (m := 1200) Tryz.func6 hmA (fun β => by kernel_rfl) (by kernel_rfl) β w hh
noncomputable def mk2w (a b c d : Gn) (t : Bool) (h : Lg4 a b c d false) {r z : Bool} (hr : gzero (mdet (four a b c d t)) = r) (hz : a.zq = z) : Spec Tryz.prog :=
  ⟨6, Tryz.call6, [.one (.a (fourL a b c d t))], [], svB true, [], fun β w hh => by
    cases a with
    | no g n => cases b with
      | ok zb hb => exact mkw0 _ _ _ _ _ _ t h hr hz β w hh
      | no gb nb => exact mkw1 _ _ _ _ _ _ t h hr hz β w hh
    | ok za ha => cases b with
      | no gb nb => cases z with
        | true => exact mkw2 _ _ _ _ _ _ t h hr hz β w hh
        | false => exact mkw7 _ _ _ _ _ _ t h hr hz β w hh
      | ok zb hb => cases c with
        | no gc nc => cases z with
          | true => exact mkw3 _ _ _ _ _ _ _ t h hr hz β w hh
          | false => exact mkw8 _ _ _ _ _ _ _ t h hr hz β w hh
        | ok zc hc => cases d with
          | no gd nd => cases z with
            | true => exact mkw4 _ _ _ _ _ _ _ _ t h hr hz β w hh
            | false => exact mkw9 _ _ _ _ _ _ _ _ t h hr hz β w hh
          | ok zd hd => cases z with
            | true => cases r with
              | true => exact mkw5 _ _ _ _ _ _ _ _ t h hr hz β w hh
              | false => exact mkw6 _ _ _ _ _ _ _ _ t h hr hz β w hh
            | false => cases r with
              | true => exact mkw10 _ _ _ _ _ _ _ _ t h hr hz β w hh
              | false => exact mkw11 _ _ _ _ _ _ _ _ t h hr hz β w hh, by kernel_rfl⟩
theorem _root_.Go.Proofs.YtiolbdleihiocaaGreat.MobMakes_walk (x0 y0 x1 y1 x2 y2 x3 y3 : R4) (t : Bool) (hx0 : x0.s.size ≤ maxLen ∧ x0.t.size ≤ maxLen) (hy0 : y0.s.size ≤ maxLen ∧ y0.t.size ≤ maxLen) (hx1 : x1.s.size ≤ maxLen ∧ x1.t.size ≤ maxLen) (hy1 : y1.s.size ≤ maxLen ∧ y1.t.size ≤ maxLen) (hx2 : x2.s.size ≤ maxLen ∧ x2.t.size ≤ maxLen) (hy2 : y2.s.size ≤ maxLen ∧ y2.t.size ≤ maxLen) (hx3 : x3.s.size ≤ maxLen ∧ x3.t.size ≤ maxLen) (hy3 : y3.s.size ≤ maxLen ∧ y3.t.size ≤ maxLen) (w : World) :
    Calls Tryz.prog 6 #[.agg (x0.V ++ y0.V ++ x1.V ++ y1.V ++ x2.V ++ y2.V ++ x3.V ++ y3.V ++ [Value.bool t]).toArray] w fun e w' => e = .returned (.bool true) ∧ Below w.heap.size w w' := by
  obtain ⟨a, rfl, rfl⟩ := gn_of x0 y0 hx0 hy0
  obtain ⟨b, rfl, rfl⟩ := gn_of x1 y1 hx1 hy1
  obtain ⟨c, rfl, rfl⟩ := gn_of x2 y2 hx2 hy2
  obtain ⟨d, rfl, rfl⟩ := gn_of x3 y3 hx3 hy3
  obtain ⟨r, h⟩ := Lg4.all a b c d
  cases r with
  | true => exact spec_yes (mk1w a b c d t h) rfl rfl w
  | false => exact spec_yes (mk2w a b c d t h rfl rfl) rfl rfl w
end Go.Proofs.YtiolbdleihiocaaGreat.Y
end
section
namespace Go.Proofs.YtiolbdleihiocaaGreat
open Go.ChangeShapes Go.WideShapes Go.ChangeAt Go.RowKit
theorem cellsOf_bool : Tryz.prog.cellsOf 4 = 1 := by kernel_rfl
theorem cellsOf_string : Tryz.prog.cellsOf 9 = 1 := by kernel_rfl
theorem cellsOf_whole : Tryz.prog.cellsOf 23 = 2 := by kernel_rfl
theorem cellsOf_frac : Tryz.prog.cellsOf 25 = 4 := by kernel_rfl
section
variable {H : Type} {enc : TypeId × Value → H} {w : World} {base : Nat} {spare : Nat → Bool} {held : Bool}
set_option maxRecDepth 100000 in
theorem trod_whole {fuel : Nat} {cs : List Value} {x : DataW H × List MemPlace} (h : DataW.trod enc Tryz.prog w base spare held fuel 23 cs = some x) :
    ∃ (b : Bool) (s : ByteArray), cs = [.bool b, .string s] ∧ s.size ≤ maxLen := by
  obtain ⟨xs, n, rfl, _, hlen, hxl, hf⟩ := DataW.trod_struct Tryz.underlying23 h
  rw [cellsOf_whole] at hlen
  have hx0 : xs[0]? = some (xs[0]'(by rw [hxl]; decide)) := List.getElem?_eq_getElem _
  have hx1 : xs[1]? = some (xs[1]'(by rw [hxl]; decide)) := List.getElem?_eq_getElem _
  have h0 : DataW.trod enc Tryz.prog w base spare held n 4 ((cs.drop 0).take (Tryz.prog.cellsOf 4)) = some _ := (hf 0 _ rfl).trans hx0
  have h1 : DataW.trod enc Tryz.prog w base spare held n 9 ((cs.drop 1).take (Tryz.prog.cellsOf 9)) = some _ := (hf 1 _ rfl).trans hx1
  rw [cellsOf_bool] at h0
  rw [cellsOf_string] at h1
  match cs, hlen with
  | [a, b], _ =>
    obtain ⟨p, e0, _⟩ := DataW.trod_bool Tryz.underlying4 h0
    obtain ⟨s, e1, _, hs⟩ := DataW.trod_string Tryz.underlying9 h1
    cases e0
    cases e1
    exact ⟨p, s, rfl, hs⟩
set_option maxRecDepth 100000 in
theorem trod_frac {fuel : Nat} {cs : List Value} {x : DataW H × List MemPlace} (h : DataW.trod enc Tryz.prog w base spare held fuel 25 cs = some x) :
    ∃ (b c : Bool) (s t : ByteArray), cs = [.bool b, .string s, .bool c, .string t] ∧ s.size ≤ maxLen ∧ t.size ≤ maxLen := by
  obtain ⟨xs, n, rfl, _, hlen, hxl, hf⟩ := DataW.trod_struct Tryz.underlying25 h
  rw [cellsOf_frac] at hlen
  have hx0 : xs[0]? = some (xs[0]'(by rw [hxl]; decide)) := List.getElem?_eq_getElem _
  have hx1 : xs[1]? = some (xs[1]'(by rw [hxl]; decide)) := List.getElem?_eq_getElem _
  have h0 : DataW.trod enc Tryz.prog w base spare held n 23 ((cs.drop 0).take (Tryz.prog.cellsOf 23)) = some _ := (hf 0 _ rfl).trans hx0
  have h1 : DataW.trod enc Tryz.prog w base spare held n 23 ((cs.drop 2).take (Tryz.prog.cellsOf 23)) = some _ := (hf 1 _ rfl).trans hx1
  rw [cellsOf_whole] at h0 h1
  match cs, hlen with
  | [a, b, c, d], _ =>
    obtain ⟨p, s, e0, hs⟩ := trod_whole h0
    obtain ⟨q, t, e1, ht⟩ := trod_whole h1
    cases e0
    cases e1
    exact ⟨p, q, s, t, rfl, hs, ht⟩
end
end Go.Proofs.YtiolbdleihiocaaGreat
end
section
namespace Go.Proofs.YtiolbdleihiocaaGreat
open Go Go.ChangeShapes Go.WideShapes Go.ChangeAt Go.RowKit
theorem cellsOf_gauss : Tryz.prog.cellsOf 27 = 8 := by kernel_rfl
theorem chunk {α : Type} (cs : List α) (a b : Nat) : cs.drop a = (cs.drop a).take b ++ cs.drop (a + b) := by
  rw [← List.drop_drop, List.take_append_drop]
def R4.ok (x : R4) : Prop := x.s.size ≤ maxLen ∧ x.t.size ≤ maxLen
section
variable {H : Type} {enc : TypeId × Value → H} {w : World} {base : Nat} {spare : Nat → Bool} {held : Bool}
theorem trod_r4 {fuel : Nat} {cs : List Value} {x : DataW H × List MemPlace} (h : DataW.trod enc Tryz.prog w base spare held fuel 25 cs = some x) : ∃ r : R4, cs = r.V ∧ r.ok := by
  obtain ⟨b, c, s, t, e, h1, h2⟩ := trod_frac h
  exact ⟨⟨b, s, c, t⟩, e, h1, h2⟩
set_option maxRecDepth 100000 in
theorem trod_gauss {fuel : Nat} {cs : List Value} {x : DataW H × List MemPlace} (h : DataW.trod enc Tryz.prog w base spare held fuel 27 cs = some x) : ∃ r s : R4, cs = r.V ++ s.V ∧ r.ok ∧ s.ok := by
  obtain ⟨xs, n, rfl, _, hlen, hxl, hf⟩ := DataW.trod_struct Tryz.underlying27 h
  rw [cellsOf_gauss] at hlen
  have hx0 : xs[0]? = some (xs[0]'(by rw [hxl]; decide)) := List.getElem?_eq_getElem _
  have hx1 : xs[1]? = some (xs[1]'(by rw [hxl]; decide)) := List.getElem?_eq_getElem _
  have h0 : DataW.trod enc Tryz.prog w base spare held n 25 ((cs.drop 0).take (Tryz.prog.cellsOf 25)) = some _ := (hf 0 _ rfl).trans hx0
  have h1 : DataW.trod enc Tryz.prog w base spare held n 25 ((cs.drop 4).take (Tryz.prog.cellsOf 25)) = some _ := (hf 1 _ rfl).trans hx1
  rw [cellsOf_frac] at h0 h1
  obtain ⟨r, e0, k0⟩ := trod_r4 h0
  obtain ⟨s, e1, k1⟩ := trod_r4 h1
  refine ⟨r, s, ?_, k0, k1⟩
  have := chunk cs 0 4
  rw [e0, List.drop_zero] at this
  rw [this, chunk cs (0 + 4) 4, e1, List.drop_of_length_le (by omega), List.append_nil]
end
end Go.Proofs.YtiolbdleihiocaaGreat
end
section
namespace Go.Proofs.YtiolbdleihiocaaGreat
open Go Go.ChangeShapes Go.WideShapes Go.ChangeAt Go.RowKit
section
variable {H : Type} {enc : TypeId × Value → H} {w : World} {base : Nat} {spare : Nat → Bool} {held : Bool}
theorem cellsOf_four : Tryz.prog.cellsOf 59 = 33 := by kernel_rfl
set_option maxRecDepth 100000 in
theorem trod_four {fuel : Nat} {cs : List Value} {x : DataW H × List MemPlace} (h : DataW.trod enc Tryz.prog w base spare held fuel 59 cs = some x) :
    ∃ (a b c d e f g k : R4) (t : Bool), cs = a.V ++ b.V ++ c.V ++ d.V ++ e.V ++ f.V ++ g.V ++ k.V ++ [Value.bool t] ∧ a.ok ∧ b.ok ∧ c.ok ∧ d.ok ∧ e.ok ∧ f.ok ∧ g.ok ∧ k.ok := by
  obtain ⟨xs, n, rfl, _, hlen, hxl, hf⟩ := DataW.trod_struct Tryz.underlying59 h
  rw [cellsOf_four] at hlen
  have hx0 : xs[0]? = some (xs[0]'(by rw [hxl]; decide)) := List.getElem?_eq_getElem _
  have hx1 : xs[1]? = some (xs[1]'(by rw [hxl]; decide)) := List.getElem?_eq_getElem _
  have hx2 : xs[2]? = some (xs[2]'(by rw [hxl]; decide)) := List.getElem?_eq_getElem _
  have hx3 : xs[3]? = some (xs[3]'(by rw [hxl]; decide)) := List.getElem?_eq_getElem _
  have hx4 : xs[4]? = some (xs[4]'(by rw [hxl]; decide)) := List.getElem?_eq_getElem _
  have h0 : DataW.trod enc Tryz.prog w base spare held n 27 ((cs.drop 0).take (Tryz.prog.cellsOf 27)) = some _ := (hf 0 _ rfl).trans hx0
  have h1 : DataW.trod enc Tryz.prog w base spare held n 27 ((cs.drop 8).take (Tryz.prog.cellsOf 27)) = some _ := (hf 1 _ rfl).trans hx1
  have h2 : DataW.trod enc Tryz.prog w base spare held n 27 ((cs.drop 16).take (Tryz.prog.cellsOf 27)) = some _ := (hf 2 _ rfl).trans hx2
  have h3 : DataW.trod enc Tryz.prog w base spare held n 27 ((cs.drop 24).take (Tryz.prog.cellsOf 27)) = some _ := (hf 3 _ rfl).trans hx3
  have h4 : DataW.trod enc Tryz.prog w base spare held n 4 ((cs.drop 32).take (Tryz.prog.cellsOf 4)) = some _ := (hf 4 _ rfl).trans hx4
  rw [cellsOf_gauss] at h0 h1 h2 h3
  rw [cellsOf_bool] at h4
  obtain ⟨a0, b0, e0, k0⟩ := trod_gauss h0
  obtain ⟨a1, b1, e1, k1⟩ := trod_gauss h1
  obtain ⟨a2, b2, e2, k2⟩ := trod_gauss h2
  obtain ⟨a3, b3, e3, k3⟩ := trod_gauss h3
  obtain ⟨t, e4⟩ : ∃ t, cs.drop 32 = [Value.bool t] := by
    match hc : (cs.drop 32), (show (cs.drop 32).length = 1 by rw [List.length_drop]; omega) with
    | [a], _ =>
      rw [hc] at h4
      obtain ⟨i, e0, _⟩ := DataW.trod_bool Tryz.underlying4 h4
      refine ⟨i, ?_⟩
      cases e0
      rfl
  refine ⟨a0, b0, a1, b1, a2, b2, a3, b3, t, ?_, k0.1, k0.2, k1.1, k1.2, k2.1, k2.2, k3.1, k3.2⟩
  have c0 := chunk cs 0 8
  have c1 := chunk cs (0 + 8) 8
  have c2 := chunk cs (0 + 8 + 8) 8
  have c3 := chunk cs (0 + 8 + 8 + 8) 8
  rw [e3, show 0 + 8 + 8 + 8 + 8 = 32 by rfl, e4] at c3
  rw [e2, c3] at c2
  rw [e1, c2] at c1
  rw [e0, c1, List.drop_zero] at c0
  rw [c0]
  simp only [List.append_assoc]
set_option maxRecDepth 100000 in
theorem open_four {r : Reach} {b0 : Nat} {v : Value} {d : DataW H} {p : List MemPlace} (hv : Value.okWide Tryz.prog w r b0 59 v) (h : DataW.Trod enc Tryz.prog w base spare held 59 v d p) :
    ∃ (x0 y0 x1 y1 x2 y2 x3 y3 : R4) (t : Bool), v = .agg (x0.V ++ y0.V ++ x1.V ++ y1.V ++ x2.V ++ y2.V ++ x3.V ++ y3.V ++ [Value.bool t]).toArray ∧ x0.ok ∧ y0.ok ∧ x1.ok ∧ y1.ok ∧ x2.ok ∧ y2.ok ∧ x3.ok ∧ y3.ok := by
  obtain ⟨cs, rfl, hsz⟩ := okWide_struct Tryz.underlying59 hv
  obtain ⟨fuel, hf⟩ := h
  obtain ⟨l⟩ := cs
  obtain ⟨a, b, c, d, e, f, g, k, t, rfl, hh⟩ := trod_four hf
  exact ⟨a, b, c, d, e, f, g, k, t, rfl, hh⟩
end
end Go.Proofs.YtiolbdleihiocaaGreat
end
