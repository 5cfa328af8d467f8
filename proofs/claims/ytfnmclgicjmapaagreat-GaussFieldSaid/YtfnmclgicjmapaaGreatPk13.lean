/- Txt, GsT, Yd, G1, G5, Open, OpnB, OpnG. -/
import Derived.ProofKit
import Derived.OpenShut
import Derived.ShutString
import Derived.ChangeOld
import Derived.Below
import Derived.Test.YtfnmclgicjmapaaGreatPk12
set_option linter.unnecessarySimpa false
set_option linter.unusedVariables false
set_option linter.unusedSimpArgs false
section
namespace Go.Proofs.YtfnmclgicjmapaaGreat
open Go.RowKit
set_option maxHeartbeats 1600000 in
set_option maxRecDepth 100000 in
theorem WText_any {w0 : World} (b : Bool) (s : ByteArray) (hs : s.size ≤ 4294967296) :
    Calls Tryz.prog 302 #[.agg #[.bool b, .string s]] w0 fun e w' => ∃ u k, e = .returned (.tuple #[.string u, .int .i64 k]) ∧ (WholeOk b s ∧ u = textN (numOf b s) ∧ k = 0 ∨ ¬ WholeOk b s ∧ u = ⟨#[]⟩ ∧ k = 2) ∧ Below w0.heap.size w0 w' := by
  have HS := Lib.hid hs
  have h1 := below_new w0 (.cells #[.bool b, .string s] 23)
  have h2 := below_new (w0.alloc (.cells #[.bool b, .string s] 23)) (.cells #[.bool b, .string s] 23)
  have HB := Lib.hid (h1.trans (h2.mono h1.size))
  have HX := Lib.hid (BoxAt.new_at (w := w0.alloc (.cells #[.bool b, .string s] 23)) #[.bool b, .string s] 23 (size_alloc w0 _).symm)
  clear hs h1 h2
  go_enter Tryz.func302, Tryz.ntmps302
  go_wp2_with fail
  refine (of_one b s HS.out HX.out).mono ?_
  rintro e w1 ⟨h, hb⟩
  have HB1 := Lib.hid (HB.out.trans (hb.mono HB.out.size))
  clear hb
  rcases h with ⟨ho, g, cap, p, rfl, hc, hi⟩ | ⟨ho, rfl⟩
  · have HO := Lib.hid ho
    have HI := Lib.hid hi
    have KT : Hid (Okt (numOf b s)) := by
      have h3 : (mag (numOf b s).natAbs).size ≤ 16384 := by rw [(numOf_ok ho).2.1]; exact ho.2
      have := wl_size h3
      unfold Hid Okt
      omega
    clear ho hi
    go_wp2_with fail
    refine (String_any HI.out KT.out).mono ?_
    rintro e w2 ⟨rfl, hb⟩
    have HB2 := Lib.hid (HB1.out.trans (hb.mono HB1.out.size))
    clear hb hc
    go_wp2
    go_ret2
    exact ⟨_, _, rfl, .inl ⟨HO.out, rfl, rfl⟩, HB2.out⟩
  · have HO := Lib.hid ho
    clear ho
    go_wp2
    go_ret2
    exact ⟨_, _, rfl, .inr ⟨HO.out, rfl, rfl⟩, HB1.out⟩
theorem textN_len (n : Int) : (textN n).size ≤ 32 * (dig n.natAbs).length + 1 := by
  rw [textN_size]
  unfold txt
  have := dd_len_words n.natAbs
  split
  · simp
  · rw [List.length_reverse, List.length_append]
    split <;> simp <;> omega
theorem textN_small {n : Int} (h : (mag n.natAbs).size ≤ 16384) : (textN n).size ≤ 200000 := by
  have h1 := textN_len n
  have h2 := wl_size h
  omega
def textQ (x : Rat) : ByteArray := if x.den = 1 then textN x.num else textN x.num ++ (⟨#[47]⟩ ++ textN (x.den : Int))
def TextAns (va : Value) (u : ByteArray) (k : Int) : Prop := (∃ x, Fit x ∧ va = fracV x ∧ u = textQ x ∧ k = 0) ∨ (¬ IsFrac va ∧ u = ⟨#[]⟩ ∧ k = 2)
theorem parts_den {b c : Bool} {s t : ByteArray} {x : Rat} (h : FracParts b s c t x) : c = false ∧ t = mag x.den ∧ WholeOk false t ∧ numOf false t = (x.den : Int) := by
  have h2 := (isFrac_parts h.isFrac).2.1
  obtain ⟨rfl, rfl, rfl, rfl⟩ := agg4 h.val
  refine ⟨rfl, rfl, h2, ?_⟩
  have := numOf_mag (x.den : Int)
  rwa [show decide ((x.den : Int) < 0) = false by simp, Int.natAbs_natCast] at this
set_option maxHeartbeats 3200000 in
set_option maxRecDepth 100000 in
theorem FText_any {w0 : World} (b c : Bool) (s t : ByteArray) (hs : s.size ≤ maxLen) (ht : t.size ≤ maxLen) :
    Calls Tryz.prog 144 #[.agg #[.bool b, .string s, .bool c, .string t]] w0 fun e w' => ∃ u k, e = .returned (.tuple #[.string u, .int .i64 k]) ∧ TextAns (.agg #[.bool b, .string s, .bool c, .string t]) u k ∧ Below w0.heap.size w0 w' := by
  have HS := Lib.hid hs
  have HT := Lib.hid ht
  have HW0 := Lib.hid (below_new w0 (.cells #[.bool b, .string s, .bool c, .string t] 25))
  have HX0 := Lib.hid (BoxAt.new w0 #[.bool b, .string s, .bool c, .string t] 25)
  clear hs ht
  go_enter Tryz.func144, Tryz.ntmps144
  go_wp2_with fail
  refine (May_any b c s t HS.out HT.out).mono ?_
  rintro e w1 ⟨r, rfl, hr, hb⟩
  have HX1 := Lib.hid (HX0.out.on hb)
  have HW1 := Lib.hid (HW0.out.trans (hb.mono HW0.out.size))
  have HR := Lib.hid hr
  clear hb hr
  cases r
  · go_wp2
    go_ret2
    exact ⟨_, _, rfl, .inr ⟨fun h => Bool.noConfusion (HR.out.2 h), rfl, rfl⟩, HW1.out⟩
  obtain ⟨x, hx⟩ := parts_of (by first | exact HR.out.1 rfl | exact HR.out.1 trivial)
  have HX := Lib.hid hx
  obtain ⟨rfl, ht2, ho2, hn2⟩ := parts_den hx
  have HT2 := Lib.hid ht2
  have HO2 := Lib.hid ho2
  have HN2 := Lib.hid hn2
  have hc0 := HX1.out.cell 0 (.bool b) rfl
  have hc1 := HX1.out.cell 1 (.string s) rfl
  clear hx HR ht2 ho2 hn2
  go_wp2_with fail
  refine (WText_any b s HX.out.hs).mono ?_
  rintro e w2 ⟨un, k, rfl, hu, hb⟩
  have HU : Hid (un = textN x.num) := by
    obtain ⟨h1, h2⟩ := fracV_num HX.out
    rcases hu with h | h
    · rw [← h2]; exact h.2.1
    · exact absurd h1 h.1
  have HX2 := Lib.hid (HX1.out.on hb)
  have HW2 := Lib.hid (HW1.out.trans (hb.mono HW1.out.size))
  clear hu hb hc0 hc1
  go_wp2
  refine wp_region_acts 4 (fun w' => Below w0.heap.size w0 w' ∧ BoxAt w' w0.heap.size #[.bool b, .string s, .bool false, .string t] 25) (fun w w' => Below w.heap.size w w') (fun i w v => match i with
      | 0 => v = .pointer (some ⟨w0.heap.size, 2, none⟩)
      | 1 => v = .agg #[.bool false, .string t]
      | 2 => ∃ g, v = .pointer (some ⟨g, 0, none⟩) ∧ IntAt w g 0 1
      | _ => ∃ s', v = .agg #[.bool false, .string s'] ∧ Hid (s' = mag 1)) (by kernel_rfl) (by kernel_rfl) (by kernel_rfl) ⟨HW2.out.drew, HX2.out⟩ (fun _ _ => (Below.refl _ _)) ?_ ⟨?_, ?_, ?_, ?_, trivial⟩ ?_
  · intro i w1 w2 v hC hC2 hE hV
    match i with
    | 0 => exact hV
    | 1 => exact hV
    | 2 => obtain ⟨g, e, h⟩ := hV; exact ⟨g, e, h.on hE⟩
    | _ + 3 => exact hV
  · intro a' w' hag hC hd K hK
    have e1 : a'.tmps.getD 1 undef = .pointer (some ⟨w0.heap.size, 0, none⟩) := hag 1 rfl
    go_step
    exact hK _ _ hC ((Below.refl _ _)) rfl
  · intro a' w' hag hC hd K hK
    have e17 : a'.tmps.getD 17 undef = .pointer (some ⟨w0.heap.size, 2, none⟩) := hd.1
    have hc0 := hC.2.cell 2 (.bool false) rfl
    have hc1 := hC.2.cell 3 (.string t) rfl
    have HK := Lib.hid (hK (.agg #[.bool false, .string t]) _ hC (Below.refl _ _) rfl)
    clear hK hC
    go_step
    exact HK.out
  · intro a' w' hag hC hd K hK
    go_step
    refine (NewInt_any (n := 1) (by decide)).mono ?_
    rintro e w2 ⟨g, rfl, hg, h1, h2⟩
    exact hK _ _ ⟨hC.1.trans (h2.mono hC.1.size), hC.2.on h2⟩ h2 ⟨_, rfl, h1⟩
  · intro a' w' hag hC hd K hK
    obtain ⟨g19, e19, h19⟩ := hd.1
    have e19 : a'.tmps.getD 19 undef = .pointer (some ⟨g19, 0, none⟩) := e19
    go_step
    refine (back_agg h19 (okn_i64 (by decide))).mono ?_
    rintro e w2 ⟨p, s', rfl, h1, h2, hb⟩
    have hp : p = false := by rw [h1.out]; rfl
    subst hp
    exact hK _ _ ⟨hC.1.trans (hb.mono hC.1.size), hC.2.on hb⟩ hb ⟨s', rfl, h2⟩
  · intro u w' hC hall
    obtain ⟨u0, u1, u2, u3, _⟩ := hall
    have u0 : u 0 = .pointer (some ⟨w0.heap.size, 2, none⟩) := u0
    have u1 : u 1 = .agg #[.bool false, .string t] := u1
    obtain ⟨s20, eu3, hs20⟩ := u3
    have u3 : u 3 = .agg #[.bool false, .string s20] := eu3
    simp only [fillR, List.take_succ_cons, List.take_zero, Act.put, List.setIfInBounds_toArray, List.set_cons_succ, List.set_cons_zero, Nat.zero_add, Nat.reduceAdd, u0, u1, u3]
    clear u0 u1 u3
    have HC := Lib.hid hC.1
    have HX3 := Lib.hid hC.2
    clear hC
    by_cases hd : t.toList = s20.toList
    · have HD : Hid (x.den = 1) := by
        have h1 := toList_inj.1 hd
        rw [HT2.out, hs20.out] at h1
        exact mag_inj h1
      go_wp2
      go_ret2
      exact ⟨_, _, rfl, .inl ⟨x, HX.out.fit, HX.out.val, by rw [textQ, if_pos HD.out]; exact HU.out, rfl⟩, HC.out⟩
    · have HD : Hid (¬ x.den = 1) := fun e => hd (by rw [HT2.out, hs20.out, e])
      have hc0 := HX3.out.cell 2 (.bool false) rfl
      have hc1 := HX3.out.cell 3 (.string t) rfl
      go_wp2_with fail
      refine (WText_any false t HX.out.ht).mono ?_
      rintro e w4 ⟨u2, k2, rfl, hu, hb⟩
      have HU2 : Hid (u2 = textN (x.den : Int)) := by
        rcases hu with h | h
        · rw [← HN2.out]; exact h.2.1
        · exact absurd HO2.out h.1
      have HB := Lib.hid (HC.out.trans (hb.mono HC.out.size))
      have hu1 : un.size ≤ 200000 := by rw [HU.out]; exact textN_small (Nat.le_trans HX.out.fit.1 (by decide))
      have hu2 : u2.size ≤ 200000 := by rw [HU2.out]; exact textN_small (by rw [Int.natAbs_natCast]; exact Nat.le_trans HX.out.fit.2 (by decide))
      have hu3 : ((⟨#[47]⟩ : ByteArray) ++ u2).size ≤ 200001 := by rw [ByteArray.size_append]; show 1 + u2.size ≤ _; omega
      clear hu hb hc0 hc1
      go_wp2
      go_ret2
      exact ⟨_, _, rfl, .inl ⟨x, HX.out.fit, HX.out.val, by rw [textQ, if_neg HD.out, ← HU.out, ← HU2.out], rfl⟩, HB.out⟩
end Go.Proofs.YtfnmclgicjmapaaGreat
end
section
namespace Go.Proofs.YtfnmclgicjmapaaGreat.Y
open Go Go.RowKit
set_option maxRecDepth 100000
def sFText {x : Rat} (h : Fit x) {u : ByteArray} (hu : textQ x = u) : Spec Tryz.prog :=
  ⟨144, Tryz.call144, [.one (.a (fC x))], [], .tup [.c (.b (.v (.string u))), nI' 0], [], fun β w hh => by
    refine (FText_any (decide (x.num < 0)) false (mag x.num.natAbs) (mag x.den) (Nat.le_trans h.1 (by decide)) (Nat.le_trans h.2 (by decide))).mono ?_
    rintro e w' ⟨v, k, rfl, ⟨y, _, hy, rfl, rfl⟩ | ⟨hn, _⟩, hb⟩
    · obtain rfl : x = y := fracV_inj hy
      rw [hu]
      exact ⟨[], (fun _ h => by cases h), rfl, trivial, hb⟩
    · exact absurd (fitF x h) hn, by kernel_rfl⟩
abbrev zb : GQ := ⟨Rat.divInt 1 2, Rat.divInt (-1) 2⟩
theorem zb_fit : FitG zb := fit_small (by decide +kernel) (by decide +kernel) (by decide +kernel) (by decide +kernel)
theorem zb_eq : gdiv (gint 1 0) (gint 1 1) = zb := by
  have h1 : decide ((gdiv (gint 1 0) (gint 1 1)).re = zb.re) = true := by kernel_rfl
  have h2 : decide ((gdiv (gint 1 0) (gint 1 1)).im = zb.im) = true := by kernel_rfl
  exact congr (congrArg GQ.mk (of_decide_eq_true h1)) (of_decide_eq_true h2)
abbrev tre : ByteArray := ⟨#[49, 47, 50]⟩
abbrev tim : ByteArray := ⟨#[45, 49, 47, 50]⟩
theorem tre_eq : textQ zb.re = tre := by kernel_rfl
theorem tim_eq : textQ zb.im = tim := by kernel_rfl
noncomputable def sGTextB : Spec Tryz.prog :=
  Spec.auto Tryz.call216 [gS zb] [] (.tup [.c (.b (.v (.string ⟨#[49, 47, 50, 45, 49, 47, 50, 105]⟩))), nI' 0]) []
    [(sGM (gpX zb zb_fit) (r := true) rfl).e, (sFText zb_fit.1 tre_eq).e, (sFText zb_fit.2 tim_eq).e] [] 400 Tryz.func216 hmA (by kernel_rfl) (fun β => by kernel_rfl)
noncomputable def sGRealNo (a : Gn) (h : a.B = false) : Spec Tryz.prog :=
  Spec.auto Tryz.call218 [gnS a] [] (tB' false) [] [(sGM a.gp (r := false) (a.gpB.trans h)).e] [(1, 9)] 400 Tryz.func218 hmA (by kernel_rfl) (fun β => by kernel_rfl)
theorem no_frac : ¬ IsFrac (rawV false false ⟨#[]⟩ ⟨#[]⟩) := fun h => by
  unfold rawV at h
  rw [isFrac_doc] at h
  exact absurd h.2.2.2.1 (by decide)
def noFr : Fr := ⟨r40, .no false false ⟨#[]⟩ ⟨#[]⟩ no_frac (by decide) (by decide), rfl⟩
def noGn : Gn := .no ⟨noFr, frX (Rat.divInt 0 1) fit00.2⟩ rfl
theorem ga_eq {z w : GQ} (e : z = w) (h : FitG w) : SV.tup [.a (gaC z), nI' (gaK z)] = .tup [.a (gC w), nI' 0] := by
  rw [e, (ga_fit h).1, (ga_fit h).2]
theorem f11 : FitG (gint 1 1) := fit_int (by decide) (by decide)
theorem f12 : FitG (gint 1 2) := fit_int (by decide) (by decide)
theorem f31 : FitG (gint 3 (-1)) := fit_int (by decide) (by decide)
theorem f55 : FitG (gint 5 5) := fit_int (by decide) (by decide)
theorem mul55 : gmul (gint 1 2) (gint 3 (-1)) = gint 5 5 := by
  have h1 : decide ((gmul (gint 1 2) (gint 3 (-1))).re = (gint 5 5).re) = true := by kernel_rfl
  have h2 : decide ((gmul (gint 1 2) (gint 3 (-1))).im = (gint 5 5).im) = true := by kernel_rfl
  exact congr (congrArg GQ.mk (of_decide_eq_true h1)) (of_decide_eq_true h2)
noncomputable def kMul : Spec Tryz.prog := (sGMul f12 f31).conv (.tup [.a (gC (gint 5 5)), nI' 0]) (ga_eq mul55 f55)
noncomputable def kDiv : Spec Tryz.prog := (sGDiv fit10 f11 (by kernel_rfl)).conv (.tup [.a (gC zb), nI' 0]) (ga_eq zb_eq zb_fit)
noncomputable def kSq : Spec Tryz.prog := sGSqrt34.conv (.tup [.a (gC (gint 1 2)), nI' 0]) (ga_eq s34_eq f12)
noncomputable def kDiv0 : Spec Tryz.prog := sGDiv0 fit10 fit00 (by kernel_rfl)
noncomputable def kPow : Spec Tryz.prog := sGPow fit00 (by kernel_rfl)
def eqGz (z : GQ) : Ev Tryz.prog := eqEvG (fR z.re) (fR z.im) (fR z.re) (fR z.im) true (geq_self2 _ _)
noncomputable def sKnown4 : Spec Tryz.prog :=
  Spec.auto Tryz.call54 [] [] (tB' true) []
    [(sR4Int 1 2).e, (sR4Int 3 (-1)).e, kMul.e, (sR4Int 1 0).e, (sR4Int 1 1).e, kDiv.e, (sR4Int (-3) 4).e, kSq.e, (sR4Int 2 0).e, sGSqrt20.e, sGTextB.e, (sR4Int 1 0).e, (sR4Int 0 0).e, kDiv0.e, (sR4Int 0 0).e, kPow.e,
      (sNum4 5).e, (sNum4 5).e, (sR4Int 0 0).e, (sGRealNo noGn rfl).e, (sR4Int 5 5).e, eqGz (gint 5 5), (sNum4 0).e, (sNum4 0).e, (sNum4 0).e, (sR4Int 1 2).e, eqGz (gint 1 2), (sNum4 0).e, (sNum4 7).e]
    [(8, 53)] 3000 Tryz.func54 hmA (by kernel_rfl) (fun β => by kernel_rfl)
end Go.Proofs.YtfnmclgicjmapaaGreat.Y
end
section
namespace Go.Proofs.YtfnmclgicjmapaaGreat.Y
open Go Go.RowKit
theorem spec_yes {P : Program} (S : Spec P) (ho : S.obs = []) (hr : S.res = .one (.c (.b (.v (.bool true))))) (w : World) : Calls P S.f (S.args.map (SV.den idE)).toArray w fun e w' => e = .returned (.bool true) ∧ Below w.heap.size w w' := by
  refine (S.ok idE w (by rw [ho]; intro k t h; simp at h)).mono ?_
  rintro e w' ⟨xs, _, rfl, _, hb⟩
  exact ⟨by rw [hr]; rfl, hb⟩
end Go.Proofs.YtfnmclgicjmapaaGreat.Y
end
section
namespace Go.Proofs.YtfnmclgicjmapaaGreat.Y
open Go Go.RowKit
set_option maxRecDepth 100000
abbrev I64 (n : Int) : Prop := -9223372036854775808 ≤ n ∧ n ≤ 9223372036854775807
theorem sz_i64 {n : Int} (h : I64 n) : Sz 8 (Rat.divInt n 1) := sz_lit n 1 (by omega) (by decide) (by decide)
abbrev r0 : R4 := fR (Rat.divInt 0 1)
theorem req0 (x : Rat) : (fR x).eq r0 = decide (x = 0) := by
  rw [Bool.eq_iff_iff, R4.eq_iff, decide_eq_true_iff]
  have e : (Rat.divInt 0 1 : Rat) = 0 := of_decide_eq_true (by kernel_rfl : decide ((Rat.divInt 0 1 : Rat) = 0) = true)
  exact ⟨fun h => (fR_inj h).trans e, fun h => by rw [h, ← e]⟩
theorem gzero_eq (z : GQ) : ((fR z.re).eq r0 && ((fR z.im).eq r0 && true)) = gzero z := by
  rw [req0, req0, Bool.eq_iff_iff, gz_true, Bool.and_true, Bool.and_eq_true, decide_eq_true_iff, decide_eq_true_iff]
  exact ⟨fun h => congr (congrArg GQ.mk h.1) h.2, fun h => by rw [h]; exact ⟨rfl, rfl⟩⟩
def sGZero {x y : R4} {r : Bool} (h : (x.eq r0 && (y.eq r0 && true)) = r) : Spec Tryz.prog :=
  Spec.auto Tryz.call89 [.one (.a (rL x ++ rL y))] [] (tB' r) [] [(sGInt 0 0).e, eqEvG x y r0 r0 r h] [(1, 4)] 400 Tryz.func89 hmA (by kernel_rfl) (fun β => by kernel_rfl)
def sR4MayG (a : Gn) {r : Bool} (h : a.B = r) : Spec Tryz.prog :=
  (sR4May a.gp.a.a a.gp.b.a).as [gnS a] (tB' r) (by
    show [SV.one (.a (a.gp.a.a.C ++ a.gp.b.a.C))] = [SV.one (.a (rL a.gp.a.r ++ rL a.gp.b.r))]
    rw [show a.gp.a.a.C = rL a.gp.a.r from a.gp.a.e, show a.gp.b.a.C = rL a.gp.b.r from a.gp.b.e]) (congrArg tB' (a.gpB.trans h))
theorem norm_re (z : GQ) : (gmul (gconj z) z).re = gnorm z := by
  simp only [gmul, gconj, gnorm]
  grind
end Go.Proofs.YtfnmclgicjmapaaGreat.Y
end
section
namespace Go.Proofs.YtfnmclgicjmapaaGreat.Y
open Go Go.RowKit
set_option maxRecDepth 100000
inductive W5 where
  | a
  | b
  | c
  | d
  | ok
def W5.at (k : Nat) (x y : R4) : W5 → Prop
  | .a => big k x.s = true
  | .b => big k x.s = false ∧ big k x.t = true
  | .c => big k x.s = false ∧ big k x.t = false ∧ big k y.s = true
  | .d => big k x.s = false ∧ big k x.t = false ∧ big k y.s = false ∧ big k y.t = true
  | .ok => big k x.s = false ∧ big k x.t = false ∧ big k y.s = false ∧ big k y.t = false
def W5.yes : W5 → Bool
  | .ok => true
  | _ => false
theorem W5.all (k : Nat) (x y : R4) : ∃ t : W5, t.at k x y ∧ t.yes = smB k x y := by
  unfold smB
  cases h1 : big k x.s with
  | true => exact ⟨.a, h1, rfl⟩
  | false => cases h2 : big k x.t with
    | true => exact ⟨.b, ⟨h1, h2⟩, rfl⟩
    | false => cases h3 : big k y.s with
      | true => exact ⟨.c, ⟨h1, h2, h3⟩, rfl⟩
      | false => cases h4 : big k y.t with
        | true => exact ⟨.d, ⟨h1, h2, h3, h4⟩, rfl⟩
        | false => exact ⟨.ok, ⟨h1, h2, h3, h4⟩, rfl⟩
def smW (k : Nat) (x y : R4) : (t : W5) → t.at k x y → List (Ev Tryz.prog)
  | .a, h => [evBig k x.s 23 true h]
  | .b, h => [evBig k x.s 23 false h.1, evBig k x.t 31 true h.2]
  | .c, h => [evBig k x.s 23 false h.1, evBig k x.t 31 false h.2.1, evBig k y.s 40 true h.2.2]
  | .d, h => [evBig k x.s 23 false h.1, evBig k x.t 31 false h.2.1, evBig k y.s 40 false h.2.2.1, evBig k y.t 49 true h.2.2.2]
  | .ok, h => [evBig k x.s 23 false h.1, evBig k x.t 31 false h.2.1, evBig k y.s 40 false h.2.2.1, evBig k y.t 49 false h.2.2.2]
abbrev sm3A (k : Nat) : List SV := [.one (.c (.b (.v (.int .i64 (k : Int))))), .one (.c (.b (.s 0 0 3 3)))]
theorem small43_ok (k : Nat) (x y x' y' x2 y2 : R4) {r : Bool} (hr : (smB k x y && (smB k x' y' && smB k x2 y2)) = r) (β : Env) (w : World) (hh : (Ob.box (x.L ++ y.L ++ x'.L ++ y'.L ++ x2.L ++ y2.L) 45).holds β w (β 0)) :
    Calls Tryz.prog 53 ((sm3A k).map (SV.den β)).toArray w fun e w' => e = .returned (.bool r) ∧ Below w.heap.size w w' := by
  obtain ⟨t, ht, et⟩ := W5.all k x y
  obtain ⟨t', ht', et'⟩ := W5.all k x' y'
  obtain ⟨t2, ht2, et2⟩ := W5.all k x2 y2
  rw [← hr, ← et, ← et', ← et2]
  cases t
  case ok =>
    cases t'
    case ok => cases t2 <;> exact bspec_ok (smW k x y .ok ht ++ smW k x' y' .ok ht' ++ smW k x2 y2 _ ht2) [] 1600 Tryz.func53 hmA (fun β => by kernel_rfl) (by kernel_rfl) (fun β => rfl) β w hh
    all_goals exact bspec_ok (smW k x y .ok ht ++ smW k x' y' _ ht') [] 1600 Tryz.func53 hmA (fun β => by kernel_rfl) (by kernel_rfl) (fun β => rfl) β w hh
  all_goals exact bspec_ok (smW k x y _ ht) [] 1600 Tryz.func53 hmA (fun β => by kernel_rfl) (by kernel_rfl) (fun β => rfl) β w hh
def sR4Small3 (k : Nat) (x y x' y' x2 y2 : R4) {b : Bool} (hb : (smB k x y && (smB k x' y' && smB k x2 y2)) = b) : BSpec Tryz.prog :=
  ⟨53, Tryz.call53, sm3A k, x.L ++ y.L ++ x'.L ++ y'.L ++ x2.L ++ y2.L, 45, .bool b, small43_ok k x y x' y' x2 y2 hb, by kernel_rfl, fun _ => rfl⟩
abbrev fewA : List SV := [.one (.c (.b (.s 0 0 3 3)))]
abbrev fewC (a b c : Gn) : List Lf := a.x.L ++ a.y.L ++ b.x.L ++ b.y.L ++ c.x.L ++ c.y.L
def fewB (a b c : Gn) : Bool := a.B && (b.B && (c.B && (smB 30 a.x a.y && (smB 30 b.x b.y && smB 30 c.x c.y))))
theorem few_ok (a b c : Gn) {r : Bool} (hr : fewB a b c = r) (β : Env) (w : World) (hh : (Ob.box (fewC a b c) 45).holds β w (β 0)) :
    Calls Tryz.prog 84 (fewA.map (SV.den β)).toArray w fun e w' => e = .returned (.bool r) ∧ Below w.heap.size w w' := by
  unfold fewB at hr
  cases ha : a.B with
  | false =>
    rw [ha] at hr
    obtain rfl : false = r := hr
    exact bspec_ok [(sR4MayG a ha).e] [] 1600 Tryz.func84 hmA (fun β => by kernel_rfl) (by kernel_rfl) (fun β => rfl) β w hh
  | true => cases hb : b.B with
    | false =>
      rw [ha, hb] at hr
      obtain rfl : false = r := hr
      exact bspec_ok [(sR4MayG a ha).e, (sR4MayG b hb).e] [] 1600 Tryz.func84 hmA (fun β => by kernel_rfl) (by kernel_rfl) (fun β => rfl) β w hh
    | true => cases hc : c.B with
      | false =>
        rw [ha, hb, hc] at hr
        obtain rfl : false = r := hr
        exact bspec_ok [(sR4MayG a ha).e, (sR4MayG b hb).e, (sR4MayG c hc).e] [] 1600 Tryz.func84 hmA (fun β => by kernel_rfl) (by kernel_rfl) (fun β => rfl) β w hh
      | true =>
        rw [ha, hb, hc] at hr
        exact bspec_ok [(sR4MayG a ha).e, (sR4MayG b hb).e, (sR4MayG c hc).e, (sR4Small3 30 a.x a.y b.x b.y c.x c.y hr).e] [] 1600 Tryz.func84 hmA (fun β => by kernel_rfl) (by kernel_rfl) (fun β => rfl) β w hh
def sFew (a b c : Gn) {r : Bool} (hr : fewB a b c = r) : BSpec Tryz.prog :=
  ⟨84, Tryz.call84, fewA, fewC a b c, 45, .bool r, few_ok a b c hr, by kernel_rfl, fun _ => rfl⟩
abbrev okL : Lf := .b (.v (.int .i64 0))
def sAll1 : BSpec Tryz.prog := ⟨87, Tryz.call87, [.one (.c (.b (.s 0 0 1 1)))], [okL], 29, .bool true, fun β w hh => bspec_ok [(sNum4 0).e] [] 1600 Tryz.func87 hmA (fun β => by kernel_rfl) (by kernel_rfl) (fun β => rfl) β w hh, by kernel_rfl, fun _ => rfl⟩
def sAll4 : BSpec Tryz.prog := ⟨87, Tryz.call87, [.one (.c (.b (.s 0 0 4 4)))], [okL, okL, okL, okL], 29, .bool true, fun β w hh => bspec_ok [(sNum4 0).e, (sNum4 0).e, (sNum4 0).e, (sNum4 0).e] [] 1600 Tryz.func87 hmA (fun β => by kernel_rfl) (by kernel_rfl) (fun β => rfl) β w hh, by kernel_rfl, fun _ => rfl⟩
def sAll5 : BSpec Tryz.prog := ⟨87, Tryz.call87, [.one (.c (.b (.s 0 0 5 5)))], [okL, okL, okL, okL, okL], 29, .bool true, fun β w hh => bspec_ok [(sNum4 0).e, (sNum4 0).e, (sNum4 0).e, (sNum4 0).e, (sNum4 0).e] [] 1600 Tryz.func87 hmA (fun β => by kernel_rfl) (by kernel_rfl) (fun β => rfl) β w hh, by kernel_rfl, fun _ => rfl⟩
def sAll8 : BSpec Tryz.prog := ⟨87, Tryz.call87, [.one (.c (.b (.s 0 0 8 8)))], [okL, okL, okL, okL, okL, okL, okL, okL], 29, .bool true, fun β w hh => bspec_ok [(sNum4 0).e, (sNum4 0).e, (sNum4 0).e, (sNum4 0).e, (sNum4 0).e, (sNum4 0).e, (sNum4 0).e, (sNum4 0).e] [] 1600 Tryz.func87 hmA (fun β => by kernel_rfl) (by kernel_rfl) (fun β => rfl) β w hh, by kernel_rfl, fun _ => rfl⟩
abbrev gR (z : GQ) : SV := .tup [.a (gC z), nI' 0]
abbrev fR1 (x : Rat) : SV := .tup [.a (fC x), nI' 0]
theorem fa_eq {x y : Rat} (e : x = y) (h : Fit y) : SV.tup [.a (fA x), nI' (ansK x)] = fR1 y := by
  rw [e, (fA_fit h).1, (fA_fit h).2]
noncomputable def kAdd {z w r : GQ} (hz : FitG z) (hw : FitG w) (hr : FitG r) (e : gadd z w = r) : Spec Tryz.prog := (sGAdd hz hw).conv (gR r) (ga_eq e hr)
noncomputable def kSub {z w r : GQ} (hz : FitG z) (hw : FitG w) (hr : FitG r) (e : gsub z w = r) : Spec Tryz.prog := (sGSub hz hw).conv (gR r) (ga_eq e hr)
noncomputable def kMulG {z w r : GQ} (hz : FitG z) (hw : FitG w) (hr : FitG r) (e : gmul z w = r) : Spec Tryz.prog := (sGMul hz hw).conv (gR r) (ga_eq e hr)
noncomputable def kDivG {z w r : GQ} (hz : FitG z) (hw : FitG w) (h0 : gzero w = false) (hr : FitG r) (e : gdiv z w = r) : Spec Tryz.prog := (sGDiv hz hw h0).conv (gR r) (ga_eq e hr)
noncomputable def kNeg {z r : GQ} (hz : FitG z) (hr : FitG r) (e : gneg z = r) : Spec Tryz.prog := (sGNeg hz).conv (gR r) (ga_eq e hr)
noncomputable def kConj {z r : GQ} (hz : FitG z) (hr : FitG r) (e : gconj z = r) : Spec Tryz.prog := (sGConj hz).conv (gR r) (ga_eq e hr)
noncomputable def kTurn {z r : GQ} (hz : FitG z) (hr : FitG r) (e : gmul z (gint 0 1) = r) : Spec Tryz.prog := (sGTurn hz).conv (gR r) (ga_eq e hr)
noncomputable def kSqrt {u : GQ} (hu : GSz 64 u) : Spec Tryz.prog := (sGSqrtSq hu).conv (gR (sqW u)) (ga_eq rfl (fitG_of (sqW_sz hu) (by decide)))
noncomputable def kDot {z w : GQ} {r : Rat} (hz : FitG z) (hw : FitG w) (hr : Fit r) (e : (gmul (gconj z) w).re = r) : Spec Tryz.prog := (sDot hz hw).conv (fR1 r) (fa_eq e hr)
noncomputable def kCross {z w : GQ} {r : Rat} (hz : FitG z) (hw : FitG w) (hr : Fit r) (e : (gmul (gconj z) w).im = r) : Spec Tryz.prog := (sCross hz hw).conv (fR1 r) (fa_eq e hr)
noncomputable def kNorm {z : GQ} {r : Rat} (hz : FitG z) (hr : Fit r) (e : (gmul (gconj z) z).re = r) : Spec Tryz.prog := (sGNorm hz).conv (fR1 r) (fa_eq e hr)
theorem gadd_asc (u v w : GQ) : gadd u (gadd v w) = gadd (gadd u v) w := by
  refine GQ.ext2 ?_ ?_ <;> (simp only [gadd]; grind)
theorem gmul_asc (u v w : GQ) : gmul u (gmul v w) = gmul (gmul u v) w := by
  refine GQ.ext2 ?_ ?_ <;> (simp only [gmul]; grind)
theorem gmul_dist (u v w : GQ) : gadd (gmul u v) (gmul u w) = gmul u (gadd v w) := by
  refine GQ.ext2 ?_ ?_ <;> (simp only [gmul, gadd]; grind)
theorem gsub_back (u v : GQ) : gsub (gadd u v) v = u := by
  refine GQ.ext2 ?_ ?_ <;> (simp only [gsub, gadd]; grind)
theorem gconj_add (u v : GQ) : gadd (gconj u) (gconj v) = gconj (gadd u v) := by
  refine GQ.ext2 ?_ ?_ <;> (simp only [gconj, gadd]; try grind)
theorem gconj_mul (u v : GQ) : gmul (gconj u) (gconj v) = gconj (gmul u v) := by
  refine GQ.ext2 ?_ ?_ <;> (simp only [gconj, gmul]; grind)
theorem gnorm_mul (u v : GQ) : gnorm (gmul u v) = gnorm u * gnorm v := by
  simp only [gnorm, gmul]
  grind
theorem gturn2 (u : GQ) : gmul (gmul u (gint 0 1)) (gint 0 1) = gneg u := by
  rw [gint01]
  refine GQ.ext2 ?_ ?_ <;> (simp only [gneg, gmul]; grind)
theorem gneg2 (u : GQ) : gneg (gneg u) = u := by
  refine GQ.ext2 ?_ ?_ <;> (simp only [gneg]; grind)
section
variable {u v w : GQ} (hu : GSz 30 u) (hv : GSz 30 v) (hw : GSz 30 w)
def geqE (z w : GQ) {r : Bool} (h : ((fR z.re).eq (fR w.re) && ((fR z.im).eq (fR w.im) && true)) = r) : Ev Tryz.prog := eqEvG (fR z.re) (fR z.im) (fR w.re) (fR w.im) r h
abbrev fz {k : Nat} {z : GQ} (h : GSz k z) (hk : k ≤ 1024 := by decide) : FitG z := fitG_of h hk
abbrev fq {k : Nat} {x : Rat} (h : Sz k x) (hk : k ≤ 1024 := by decide) : Fit x := fit_sz h hk
noncomputable def trnE : List (Ev Tryz.prog) :=
  [(kConj (fz hu) (fz hu.conj) rfl).e, (kConj (fz hv) (fz hv.conj) rfl).e, (kConj (fz (hu.add hv)) (fz (hu.add hv).conj) rfl).e, (kAdd (fz hu.conj) (fz hv.conj) (fz (hu.add hv).conj) (gconj_add u v)).e, sAll4.e, eqGz (gconj (gadd u v)),
    (kConj (fz (hu.mul hv)) (fz (hu.mul hv).conj) rfl).e, (kMulG (fz hu.conj) (fz hv.conj) (fz (hu.mul hv).conj) (gconj_mul u v)).e, (kMulG (fz hu.conj) (fz hv) (fz (hu.conj.mul hv)) rfl).e, (kDot (fz hu) (fz hv) (fq (hu.conj.mul hv).1) rfl).e, (kCross (fz hu) (fz hv) (fq (hu.conj.mul hv).2) rfl).e, sAll5.e,
    eqGz (gconj (gmul u v)), eqEvF (fR (gmul (gconj u) v).re) (fR (gmul (gconj u) v).re) true (R4.eq_iff.2 rfl), eqEvF (fR (gmul (gconj u) v).im) (fR (gmul (gconj u) v).im) true (R4.eq_iff.2 rfl),
    (kNorm (fz hu) (fq hu.norm) (norm_re u)).e, (kNorm (fz hv) (fq hv.norm) (norm_re v)).e, (kNorm (fz (hu.mul hv)) (fq (hu.mul hv).norm) (norm_re (gmul u v))).e,
    (kTurn (fz hu) (fz (hu.mul (GSz.int (n := 0) (m := 1) (by decide) (by decide)))) rfl).e, (kTurn (fz (hu.mul (GSz.int (n := 0) (m := 1) (by decide) (by decide)))) (fz hu.neg) (gturn2 u)).e, (kNeg (fz hu) (fz hu.neg) rfl).e,
    (kMulG (fz hu) (fz hu) (fz (hu.mul hu)) rfl).e, (kSqrt (hu.mono (by decide))).e, (kNeg (fz (sqW_sz (hu.mono (by decide)))) (fz (sqW_sz (hu.mono (by decide))).neg) rfl).e, sAll8.e,
    ((sR3Times (hu.norm.mono (by decide)) (hv.norm.mono (by decide))).conv (.one (.a (fC (gnorm (gmul u v))))) (by rw [gnorm_mul]; rfl)).e, eqEvF (fR (gnorm (gmul u v))) (fR (gnorm (gmul u v))) true (R4.eq_iff.2 rfl), eqGz (gneg u)]
theorem geq_no {z w : GQ} (h : z ≠ w) : ((fR z.re).eq (fR w.re) && ((fR z.im).eq (fR w.im) && true)) = false := by
  rw [Bool.eq_false_iff]
  intro e
  rw [Bool.and_true, Bool.and_eq_true, R4.eq_iff, R4.eq_iff] at e
  exact h (GQ.ext2 (fR_inj e.1) (fR_inj e.2))
theorem geq_yes {z w : GQ} (h : z = w) : ((fR z.re).eq (fR w.re) && ((fR z.im).eq (fR w.im) && true)) = true := by
  subst h
  exact geq_self2 _ _
noncomputable def sTurnedA (h : sqW u = u) : Spec Tryz.prog :=
  Spec.auto Tryz.call91 [gS u, gS v, gS (gadd u v), gS (gmul u v)] [] (tB' true) [] (trnE hu hv ++ [geqE (sqW u) u (geq_yes h)]) [(23, 33)] 3000 Tryz.func91 hmA (by kernel_rfl) (fun β => by kernel_rfl)
theorem turn_back (h : sqW u ≠ u) : gneg (sqW u) = u := by rw [(sqW_or u).resolve_left h, gneg2]
noncomputable def sTurnedB (h : sqW u ≠ u) : Spec Tryz.prog :=
  Spec.auto Tryz.call91 [gS u, gS v, gS (gadd u v), gS (gmul u v)] [] (tB' true) [] (trnE hu hv ++ [geqE (sqW u) u (geq_no h), geqE (gneg (sqW u)) u (geq_yes (turn_back h))]) [(23, 33)] 3000 Tryz.func91 hmA (by kernel_rfl) (fun β => by kernel_rfl)
include hu hv in
theorem turned_ok (β : Env) (w' : World) (hh : ∀ (k : Nat) (t : Thing), ([] : List Thing)[k]? = some t → t.D w' (β k)) :
    Calls Tryz.prog 91 (([gS u, gS v, gS (gadd u v), gS (gmul u v)] : List SV).map (SV.den β)).toArray w' fun e w2 => ∃ xs : List Pl, freshS β w' 0 xs ∧ e = .returned ((tB' true).den (extE β 0 xs)) ∧ newHold w2 [] xs ∧ Below w'.heap.size w' w2 := by
  by_cases h : sqW u = u
  · exact (sTurnedA hu hv h).ok β w' hh
  · exact (sTurnedB hu hv h).ok β w' hh
noncomputable def sTurned : Spec Tryz.prog :=
  ⟨91, Tryz.call91, [gS u, gS v, gS (gadd u v), gS (gmul u v)], [], tB' true, [], turned_ok hu hv, by kernel_rfl⟩
noncomputable def gfE : List (Ev Tryz.prog) :=
  [(kAdd (fz hu) (fz hv) (fz (hu.add hv)) rfl).e, (kAdd (fz hv) (fz hw) (fz (hv.add hw)) rfl).e, (kAdd (fz (hu.add hv)) (fz hw) (fz ((hu.add hv).add hw)) rfl).e, (kAdd (fz hu) (fz (hv.add hw)) (fz ((hu.add hv).add hw)) (gadd_asc u v w)).e,
    (kMulG (fz hu) (fz hv) (fz (hu.mul hv)) rfl).e, (kMulG (fz hv) (fz hw) (fz (hv.mul hw)) rfl).e, (kMulG (fz (hu.mul hv)) (fz hw) (fz ((hu.mul hv).mul hw)) rfl).e, (kMulG (fz hu) (fz (hv.mul hw)) (fz ((hu.mul hv).mul hw)) (gmul_asc u v w)).e,
    sAll8.e, eqGz (gadd (gadd u v) w), eqGz (gmul (gmul u v) w),
    (kMulG (fz hu) (fz (hv.add hw)) (fz (hu.mul (hv.add hw))) rfl).e, (kMulG (fz hu) (fz hw) (fz (hu.mul hw)) rfl).e, (kAdd (fz (hu.mul hv)) (fz (hu.mul hw)) (fz (hu.mul (hv.add hw))) (gmul_dist u v w)).e, (kSub (fz (hu.add hv)) (fz hv) (fz hu) (gsub_back u v)).e,
    sAll4.e, eqGz (gmul u (gadd v w)), eqGz u]
end
theorem gdiv_back {u v : GQ} (h : gzero v = false) : gdiv (gmul u v) v = u := by
  rw [gdiv_eq_iff (fun e => by rw [gz_true.2 e] at h; cases h)]
abbrev g5N : List (Nat × Nat) := []
abbrev g5A (a b c : Gn) : List SV := [gnS a, gnS b, gnS c]
noncomputable def g5a (a b c : Gn) (h : fewB a b c = false) : Spec Tryz.prog :=
  Spec.auto Tryz.call9 (g5A a b c) [] (tB' true) [] [sKnown4.e, (sFew a b c h).e] g5N 3000 Tryz.func9 hmA (by kernel_rfl) (fun β => by kernel_rfl)
section
variable {u v w : GQ} (fu : FitG u) (fv : FitG v) (fw : FitG w) (hu : GSz 30 u) (hv : GSz 30 v) (hw : GSz 30 w) (h : fewB (.ok u fu) (.ok v fv) (.ok w fw) = true)
noncomputable def g5b (h0 : gzero v = true) : Spec Tryz.prog :=
  Spec.auto Tryz.call9 (g5A (.ok u fu) (.ok v fv) (.ok w fw)) [] (tB' true) [] ([sKnown4.e, (sFew (.ok u fu) (.ok v fv) (.ok w fw) h).e] ++ gfE hu hv hw ++ [(sGZero (x := fR v.re) (y := fR v.im) ((gzero_eq v).trans h0)).e, (sTurned hu hv).e]) g5N 3000 Tryz.func9 hmA (by kernel_rfl) (fun β => by kernel_rfl)
noncomputable def g5c (h0 : gzero v = false) : Spec Tryz.prog :=
  Spec.auto Tryz.call9 (g5A (.ok u fu) (.ok v fv) (.ok w fw)) [] (tB' true) [] ([sKnown4.e, (sFew (.ok u fu) (.ok v fv) (.ok w fw) h).e] ++ gfE hu hv hw ++ [(sGZero (x := fR v.re) (y := fR v.im) ((gzero_eq v).trans h0)).e, (kDivG (fz (hu.mul hv)) (fz hv) h0 (fz hu) (gdiv_back h0)).e, sAll1.e, eqGz u, (sTurned hu hv).e]) g5N 3000 Tryz.func9 hmA (by kernel_rfl) (fun β => by kernel_rfl)
end
theorem big_no {k : Nat} {s : ByteArray} (h : big k s = false) : s.size ≤ k := by
  have := of_decide_eq_false h
  omega
theorem smB_sz {k : Nat} {z : GQ} (h : smB k (fR z.re) (fR z.im) = true) : GSz k z := by
  unfold smB at h
  simp only [Bool.not_eq_true', Bool.or_eq_false_iff] at h
  exact ⟨⟨big_no h.1, by rw [sz_nat]; exact big_no h.2.1⟩, ⟨big_no h.2.2.1, by rw [sz_nat]; exact big_no h.2.2.2⟩⟩
theorem _root_.Go.Proofs.YtfnmclgicjmapaaGreat.GaussField_walk (x y x' y' x2 y2 : R4) (h : (x.s.size ≤ maxLen ∧ x.t.size ≤ maxLen) ∧ y.s.size ≤ maxLen ∧ y.t.size ≤ maxLen) (h' : (x'.s.size ≤ maxLen ∧ x'.t.size ≤ maxLen) ∧ y'.s.size ≤ maxLen ∧ y'.t.size ≤ maxLen) (h2 : (x2.s.size ≤ maxLen ∧ x2.t.size ≤ maxLen) ∧ y2.s.size ≤ maxLen ∧ y2.t.size ≤ maxLen) (w : World) :
    Calls Tryz.prog 9 #[.agg (x.V ++ y.V).toArray, .agg (x'.V ++ y'.V).toArray, .agg (x2.V ++ y2.V).toArray] w fun e w' => e = .returned (.bool true) ∧ Below w.heap.size w w' := by
  obtain ⟨a, rfl, rfl⟩ := gn_of x y h.1 h.2
  obtain ⟨b, rfl, rfl⟩ := gn_of x' y' h'.1 h'.2
  obtain ⟨c, rfl, rfl⟩ := gn_of x2 y2 h2.1 h2.2
  cases h1 : fewB a b c with
  | false => exact spec_yes (g5a a b c h1) rfl rfl w
  | true =>
    have h3 := h1
    unfold fewB at h3
    simp only [Bool.and_eq_true] at h3
    obtain ⟨e1, e2, e3, s1, s2, s3⟩ := h3
    cases a with
    | no g hg => cases e1
    | ok u hu => cases b with
      | no g hg => cases e2
      | ok v hv => cases c with
        | no g hg => cases e3
        | ok t ht => cases h0 : gzero v with
          | true => exact spec_yes (g5b hu hv ht (smB_sz s1) (smB_sz s2) (smB_sz s3) h1 h0) rfl rfl w
          | false => exact spec_yes (g5c hu hv ht (smB_sz s1) (smB_sz s2) (smB_sz s3) h1 h0) rfl rfl w
end Go.Proofs.YtfnmclgicjmapaaGreat.Y
end
section
namespace Go.Proofs.YtfnmclgicjmapaaGreat
open Go.ChangeShapes Go.WideShapes Go.ChangeAt Go.RowKit
theorem cellsOf_bool : Tryz.prog.cellsOf 4 = 1 := by kernel_rfl
theorem cellsOf_string : Tryz.prog.cellsOf 9 = 1 := by kernel_rfl
theorem cellsOf_whole : Tryz.prog.cellsOf 23 = 2 := by kernel_rfl
theorem cellsOf_frac : Tryz.prog.cellsOf 25 = 4 := by kernel_rfl
section
variable {H : Type} {enc : TypeId × Value → H} {w : World} {base : Nat} {spare : Nat → Bool} {held : Bool}
set_option maxRecDepth 100000 in
theorem trod_whole {fuel : Nat} {cs : List Value} {x : DataW H × List MemPlace} (h : DataW.trod enc Tryz.prog w base spare held fuel 23 cs = some x) :
    ∃ (b : Bool) (s : ByteArray), cs = [.bool b, .string s] ∧ s.size ≤ maxLen := by
  obtain ⟨xs, n, rfl, _, hlen, hxl, hf⟩ := DataW.trod_struct Tryz.underlying23 h
  rw [cellsOf_whole] at hlen
  have hx0 : xs[0]? = some (xs[0]'(by rw [hxl]; decide)) := List.getElem?_eq_getElem _
  have hx1 : xs[1]? = some (xs[1]'(by rw [hxl]; decide)) := List.getElem?_eq_getElem _
  have h0 : DataW.trod enc Tryz.prog w base spare held n 4 ((cs.drop 0).take (Tryz.prog.cellsOf 4)) = some _ := (hf 0 _ rfl).trans hx0
  have h1 : DataW.trod enc Tryz.prog w base spare held n 9 ((cs.drop 1).take (Tryz.prog.cellsOf 9)) = some _ := (hf 1 _ rfl).trans hx1
  rw [cellsOf_bool] at h0
  rw [cellsOf_string] at h1
  match cs, hlen with
  | [a, b], _ =>
    obtain ⟨p, e0, _⟩ := DataW.trod_bool Tryz.underlying4 h0
    obtain ⟨s, e1, _, hs⟩ := DataW.trod_string Tryz.underlying9 h1
    cases e0
    cases e1
    exact ⟨p, s, rfl, hs⟩
set_option maxRecDepth 100000 in
theorem trod_frac {fuel : Nat} {cs : List Value} {x : DataW H × List MemPlace} (h : DataW.trod enc Tryz.prog w base spare held fuel 25 cs = some x) :
    ∃ (b c : Bool) (s t : ByteArray), cs = [.bool b, .string s, .bool c, .string t] ∧ s.size ≤ maxLen ∧ t.size ≤ maxLen := by
  obtain ⟨xs, n, rfl, _, hlen, hxl, hf⟩ := DataW.trod_struct Tryz.underlying25 h
  rw [cellsOf_frac] at hlen
  have hx0 : xs[0]? = some (xs[0]'(by rw [hxl]; decide)) := List.getElem?_eq_getElem _
  have hx1 : xs[1]? = some (xs[1]'(by rw [hxl]; decide)) := List.getElem?_eq_getElem _
  have h0 : DataW.trod enc Tryz.prog w base spare held n 23 ((cs.drop 0).take (Tryz.prog.cellsOf 23)) = some _ := (hf 0 _ rfl).trans hx0
  have h1 : DataW.trod enc Tryz.prog w base spare held n 23 ((cs.drop 2).take (Tryz.prog.cellsOf 23)) = some _ := (hf 1 _ rfl).trans hx1
  rw [cellsOf_whole] at h0 h1
  match cs, hlen with
  | [a, b, c, d], _ =>
    obtain ⟨p, s, e0, hs⟩ := trod_whole h0
    obtain ⟨q, t, e1, ht⟩ := trod_whole h1
    cases e0
    cases e1
    exact ⟨p, q, s, t, rfl, hs, ht⟩
end
end Go.Proofs.YtfnmclgicjmapaaGreat
end
section
namespace Go.Proofs.YtfnmclgicjmapaaGreat
open Go Go.ChangeShapes Go.WideShapes Go.ChangeAt Go.RowKit
theorem cellsOf_gauss : Tryz.prog.cellsOf 45 = 8 := by kernel_rfl
theorem chunk {α : Type} (cs : List α) (a b : Nat) : cs.drop a = (cs.drop a).take b ++ cs.drop (a + b) := by
  rw [← List.drop_drop, List.take_append_drop]
def R4.ok (x : R4) : Prop := x.s.size ≤ maxLen ∧ x.t.size ≤ maxLen
section
variable {H : Type} {enc : TypeId × Value → H} {w : World} {base : Nat} {spare : Nat → Bool} {held : Bool}
theorem trod_r4 {fuel : Nat} {cs : List Value} {x : DataW H × List MemPlace} (h : DataW.trod enc Tryz.prog w base spare held fuel 25 cs = some x) : ∃ r : R4, cs = r.V ∧ r.ok := by
  obtain ⟨b, c, s, t, e, h1, h2⟩ := trod_frac h
  exact ⟨⟨b, s, c, t⟩, e, h1, h2⟩
set_option maxRecDepth 100000 in
theorem trod_gauss {fuel : Nat} {cs : List Value} {x : DataW H × List MemPlace} (h : DataW.trod enc Tryz.prog w base spare held fuel 45 cs = some x) : ∃ r s : R4, cs = r.V ++ s.V ∧ r.ok ∧ s.ok := by
  obtain ⟨xs, n, rfl, _, hlen, hxl, hf⟩ := DataW.trod_struct Tryz.underlying45 h
  rw [cellsOf_gauss] at hlen
  have hx0 : xs[0]? = some (xs[0]'(by rw [hxl]; decide)) := List.getElem?_eq_getElem _
  have hx1 : xs[1]? = some (xs[1]'(by rw [hxl]; decide)) := List.getElem?_eq_getElem _
  have h0 : DataW.trod enc Tryz.prog w base spare held n 25 ((cs.drop 0).take (Tryz.prog.cellsOf 25)) = some _ := (hf 0 _ rfl).trans hx0
  have h1 : DataW.trod enc Tryz.prog w base spare held n 25 ((cs.drop 4).take (Tryz.prog.cellsOf 25)) = some _ := (hf 1 _ rfl).trans hx1
  rw [cellsOf_frac] at h0 h1
  obtain ⟨r, e0, k0⟩ := trod_r4 h0
  obtain ⟨s, e1, k1⟩ := trod_r4 h1
  refine ⟨r, s, ?_, k0, k1⟩
  have := chunk cs 0 4
  rw [e0, List.drop_zero] at this
  rw [this, chunk cs (0 + 4) 4, e1, List.drop_of_length_le (by omega), List.append_nil]
end
end Go.Proofs.YtfnmclgicjmapaaGreat
end
section
namespace Go.Proofs.YtfnmclgicjmapaaGreat
open Go Go.ChangeShapes Go.WideShapes Go.ChangeAt Go.RowKit
section
variable {H : Type} {enc : TypeId × Value → H} {w : World} {base : Nat} {spare : Nat → Bool} {held : Bool}
set_option maxRecDepth 100000 in
theorem open_gauss {r : Reach} {b0 : Nat} {v : Value} {d : DataW H} {p : List MemPlace} (hv : Value.okWide Tryz.prog w r b0 45 v) (h : DataW.Trod enc Tryz.prog w base spare held 45 v d p) :
    ∃ x y : R4, v = .agg (x.V ++ y.V).toArray ∧ x.ok ∧ y.ok := by
  obtain ⟨cs, rfl, hsz⟩ := okWide_struct Tryz.underlying45 hv
  obtain ⟨fuel, hf⟩ := h
  obtain ⟨l⟩ := cs
  obtain ⟨a, b, rfl, hh⟩ := trod_gauss hf
  exact ⟨a, b, rfl, hh⟩
end
end Go.Proofs.YtfnmclgicjmapaaGreat
end
