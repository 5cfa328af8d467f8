/- The walk of FracSums. -/
import Derived.Test.YtaenedjanckaiaaGreatEvA
namespace Go.Proofs.YtaenedjanckaiaaGreat
set_option linter.unnecessarySimpa false
set_option linter.unusedVariables false
set_option linter.unusedSimpArgs false
open Go Go.RowKit


set_option maxRecDepth 100000
theorem sums_long (b1 c1 b2 c2 : Bool) (s1 t1 s2 t2 : ByteArray) (h : ¬ ((s1.size ≤ 1100 ∧ t1.size ≤ 1100) ∧ (s2.size ≤ 1100 ∧ t2.size ≤ 1100))) (w : World) :
    Calls Tryz.prog 3 #[rawV b1 c1 s1 t1, rawV b2 c2 s2 t2] w fun e w' => e = .returned (.bool true) ∧ Below w.heap.size w w' :=
  sx_ret [rawV b1 c1 s1 t1, rawV b2 c2 s2 t2]
    [eLong2 2 1100 b1 c1 b2 c2 s1 t1 s2 t2 true (by decide) (iff_true_of h),
    eKnown]
    [] 4000 (.bool true) Tryz.func3 hmA (fun β => by kernel_rfl) w

theorem sums_00 (b1 c1 b2 c2 : Bool) (s1 t1 s2 t2 : ByteArray) (hs1 : s1.size ≤ maxLen) (ht1 : t1.size ≤ maxLen) (hs2 : s2.size ≤ maxLen) (ht2 : t2.size ≤ maxLen) (hl : (s1.size ≤ 1100 ∧ t1.size ≤ 1100) ∧ (s2.size ≤ 1100 ∧ t2.size ≤ 1100)) (h1 : ¬ IsFrac (rawV b1 c1 s1 t1)) (h2 : ¬ IsFrac (rawV b2 c2 s2 t2)) (no : ¬ (IsFrac (rawV b1 c1 s1 t1) ∧ IsFrac (rawV b2 c2 s2 t2))) (w : World) :
    Calls Tryz.prog 3 #[rawV b1 c1 s1 t1, rawV b2 c2 s2 t2] w fun e w' => e = .returned (.bool true) ∧ Below w.heap.size w w' :=
  sx_ret [rawV b1 c1 s1 t1, rawV b2 c2 s2 t2]
    [eLong2 2 1100 b1 c1 b2 c2 s1 t1 s2 t2 false (by decide) (iff_false_of (not_not_intro hl)),
    eRMay b1 c1 s1 t1 false (iff_false_of h1),
    eRMay b2 c2 s2 t2 false (iff_false_of h2),
    eAddN b1 c1 b2 c2 s1 t1 s2 t2 hs1 ht1 hs2 ht2 no,
    eSubN b1 c1 b2 c2 s1 t1 s2 t2 hs1 ht1 hs2 ht2 no,
    eMulN b1 c1 b2 c2 s1 t1 s2 t2 hs1 ht1 hs2 ht2 no,
    eDivN b1 c1 b2 c2 s1 t1 s2 t2 hs1 ht1 hs2 ht2 no,
    eCmpN b1 c1 b2 c2 s1 t1 s2 t2 hs1 ht1 hs2 ht2 no,
    eMay b1 c1 s1 t1 hs1 ht1 false (iff_false_of h1),
    eMay b2 c2 s2 t2 hs2 ht2 false (iff_false_of h2),
    eToldNot b1 c1 s1 t1,
    eToldNot b1 c1 s1 t1,
    eToldNot b1 c1 s1 t1,
    eToldNot b1 c1 s1 t1,
    eKnown]
    [] 4000 (.bool true) Tryz.func3 hmA (fun β => by kernel_rfl) w

theorem sums_01 (b1 c1 b2 c2 : Bool) (s1 t1 s2 t2 : ByteArray) (hs1 : s1.size ≤ maxLen) (ht1 : t1.size ≤ maxLen) (hs2 : s2.size ≤ maxLen) (ht2 : t2.size ≤ maxLen) (hl : (s1.size ≤ 1100 ∧ t1.size ≤ 1100) ∧ (s2.size ≤ 1100 ∧ t2.size ≤ 1100)) (h1 : ¬ IsFrac (rawV b1 c1 s1 t1)) (h2 : IsFrac (rawV b2 c2 s2 t2)) (no : ¬ (IsFrac (rawV b1 c1 s1 t1) ∧ IsFrac (rawV b2 c2 s2 t2))) (w : World) :
    Calls Tryz.prog 3 #[rawV b1 c1 s1 t1, rawV b2 c2 s2 t2] w fun e w' => e = .returned (.bool true) ∧ Below w.heap.size w w' :=
  sx_ret [rawV b1 c1 s1 t1, rawV b2 c2 s2 t2]
    [eLong2 2 1100 b1 c1 b2 c2 s1 t1 s2 t2 false (by decide) (iff_false_of (not_not_intro hl)),
    eRMay b1 c1 s1 t1 false (iff_false_of h1),
    eRMay b2 c2 s2 t2 true (iff_true_of h2),
    eAddN b1 c1 b2 c2 s1 t1 s2 t2 hs1 ht1 hs2 ht2 no,
    eSubN b1 c1 b2 c2 s1 t1 s2 t2 hs1 ht1 hs2 ht2 no,
    eMulN b1 c1 b2 c2 s1 t1 s2 t2 hs1 ht1 hs2 ht2 no,
    eDivN b1 c1 b2 c2 s1 t1 s2 t2 hs1 ht1 hs2 ht2 no,
    eCmpN b1 c1 b2 c2 s1 t1 s2 t2 hs1 ht1 hs2 ht2 no,
    eMay b1 c1 s1 t1 hs1 ht1 false (iff_false_of h1),
    eMay b2 c2 s2 t2 hs2 ht2 true (iff_true_of h2),
    eToldNot b1 c1 s1 t1,
    eToldNot b1 c1 s1 t1,
    eToldNot b1 c1 s1 t1,
    eToldNot b1 c1 s1 t1,
    eKnown]
    [] 4000 (.bool true) Tryz.func3 hmA (fun β => by kernel_rfl) w

theorem sums_10 (b1 c1 b2 c2 : Bool) (s1 t1 s2 t2 : ByteArray) (hs1 : s1.size ≤ maxLen) (ht1 : t1.size ≤ maxLen) (hs2 : s2.size ≤ maxLen) (ht2 : t2.size ≤ maxLen) (hl : (s1.size ≤ 1100 ∧ t1.size ≤ 1100) ∧ (s2.size ≤ 1100 ∧ t2.size ≤ 1100)) (h1 : IsFrac (rawV b1 c1 s1 t1)) (h2 : ¬ IsFrac (rawV b2 c2 s2 t2)) (no : ¬ (IsFrac (rawV b1 c1 s1 t1) ∧ IsFrac (rawV b2 c2 s2 t2))) (w : World) :
    Calls Tryz.prog 3 #[rawV b1 c1 s1 t1, rawV b2 c2 s2 t2] w fun e w' => e = .returned (.bool true) ∧ Below w.heap.size w w' :=
  sx_ret [rawV b1 c1 s1 t1, rawV b2 c2 s2 t2]
    [eLong2 2 1100 b1 c1 b2 c2 s1 t1 s2 t2 false (by decide) (iff_false_of (not_not_intro hl)),
    eRMay b1 c1 s1 t1 true (iff_true_of h1),
    eRMay b2 c2 s2 t2 false (iff_false_of h2),
    eAddN b1 c1 b2 c2 s1 t1 s2 t2 hs1 ht1 hs2 ht2 no,
    eSubN b1 c1 b2 c2 s1 t1 s2 t2 hs1 ht1 hs2 ht2 no,
    eMulN b1 c1 b2 c2 s1 t1 s2 t2 hs1 ht1 hs2 ht2 no,
    eDivN b1 c1 b2 c2 s1 t1 s2 t2 hs1 ht1 hs2 ht2 no,
    eCmpN b1 c1 b2 c2 s1 t1 s2 t2 hs1 ht1 hs2 ht2 no,
    eMay b1 c1 s1 t1 hs1 ht1 true (iff_true_of h1),
    eMay b2 c2 s2 t2 hs2 ht2 false (iff_false_of h2),
    eToldNot b1 c1 s1 t1,
    eToldNot b1 c1 s1 t1,
    eToldNot b1 c1 s1 t1,
    eToldNot b1 c1 s1 t1,
    eKnown]
    [] 4000 (.bool true) Tryz.func3 hmA (fun β => by kernel_rfl) w

theorem sums_zero {x : Rat} (hx : Fit x) (w : World) :
    Calls Tryz.prog 3 #[fracV x, fracV 0] w fun e w' => e = .returned (.bool true) ∧ Below w.heap.size w w' :=
  sx_ret [fracV x, fracV 0]
    [eLong2 2 1100 (decide ((x).num < 0)) false (decide (((0 : Rat)).num < 0)) false (mag (x).num.natAbs) (mag (x).den) (mag ((0 : Rat)).num.natAbs) (mag ((0 : Rat)).den) false (by decide) (iff_false_of (not_not_intro ⟨fit_size (k := 1100) hx (by decide), fit_size (k := 1100) fit_zero (by decide)⟩)),
    eRMayF x hx,
    eRMayF (0 : Rat) fit_zero,
    eAdd hx fit_zero,
    eSub hx fit_zero,
    eMul hx fit_zero,
    eDiv0 hx,
    eCmp hx fit_zero,
    eMayF x hx,
    eMayF (0 : Rat) fit_zero,
    eRPlus (hx.sz.mono (by decide)) (fit_zero.sz.mono (by decide)),
    eTold (x + (0 : Rat)),
    eRMinus (hx.sz.mono (by decide)) (fit_zero.sz.mono (by decide)),
    eTold (x - (0 : Rat)),
    eRTimes (hx.sz.mono (by decide)) (fit_zero.sz.mono (by decide)),
    eTold (x * (0 : Rat)),
    eRCmp (hx.sz.mono (by decide)) (fit_zero.sz.mono (by decide)),
    .eqv 136 (.bool ((cmpQ x (0 : Rat)) != (cmpQ x (0 : Rat)))) (.bool false) (ine_self (cmpQ x (0 : Rat))),
    eRSign (k := 0) (fit_zero.sz.mono (by decide)) rfl,
    eKnown]
    [] 4000 (.bool true) Tryz.func3 hmA (fun β => by kernel_rfl) w

theorem sums_pos {x y : Rat} (hx : Fit x) (hy : Fit y) (h0 : y ≠ 0) (hs : y.num.sign = 1) (w : World) :
    Calls Tryz.prog 3 #[fracV x, fracV y] w fun e w' => e = .returned (.bool true) ∧ Below w.heap.size w w' :=
  sx_ret [fracV x, fracV y]
    [eLong2 2 1100 (decide ((x).num < 0)) false (decide ((y).num < 0)) false (mag (x).num.natAbs) (mag (x).den) (mag (y).num.natAbs) (mag (y).den) false (by decide) (iff_false_of (not_not_intro ⟨fit_size (k := 1100) hx (by decide), fit_size (k := 1100) hy (by decide)⟩)),
    eRMayF x hx,
    eRMayF y hy,
    eAdd hx hy,
    eSub hx hy,
    eMul hx hy,
    eDiv hx hy h0,
    eCmp hx hy,
    eMayF x hx,
    eMayF y hy,
    eRPlus (hx.sz.mono (by decide)) (hy.sz.mono (by decide)),
    eTold (x + y),
    eRMinus (hx.sz.mono (by decide)) (hy.sz.mono (by decide)),
    eTold (x - y),
    eRTimes (hx.sz.mono (by decide)) (hy.sz.mono (by decide)),
    eTold (x * y),
    eRCmp (hx.sz.mono (by decide)) (hy.sz.mono (by decide)),
    .eqv 136 (.bool ((cmpQ x y) != (cmpQ x y))) (.bool false) (ine_self (cmpQ x y)),
    eRSign (k := 1) (hy.sz.mono (by decide)) hs,
    eROver (hx.sz.mono (by decide)) (hy.sz.mono (by decide)) h0,
    eTold (x / y),
    eKnown]
    [] 4000 (.bool true) Tryz.func3 hmA (fun β => by kernel_rfl) w

theorem sums_neg {x y : Rat} (hx : Fit x) (hy : Fit y) (h0 : y ≠ 0) (hs : y.num.sign = (-1)) (w : World) :
    Calls Tryz.prog 3 #[fracV x, fracV y] w fun e w' => e = .returned (.bool true) ∧ Below w.heap.size w w' :=
  sx_ret [fracV x, fracV y]
    [eLong2 2 1100 (decide ((x).num < 0)) false (decide ((y).num < 0)) false (mag (x).num.natAbs) (mag (x).den) (mag (y).num.natAbs) (mag (y).den) false (by decide) (iff_false_of (not_not_intro ⟨fit_size (k := 1100) hx (by decide), fit_size (k := 1100) hy (by decide)⟩)),
    eRMayF x hx,
    eRMayF y hy,
    eAdd hx hy,
    eSub hx hy,
    eMul hx hy,
    eDiv hx hy h0,
    eCmp hx hy,
    eMayF x hx,
    eMayF y hy,
    eRPlus (hx.sz.mono (by decide)) (hy.sz.mono (by decide)),
    eTold (x + y),
    eRMinus (hx.sz.mono (by decide)) (hy.sz.mono (by decide)),
    eTold (x - y),
    eRTimes (hx.sz.mono (by decide)) (hy.sz.mono (by decide)),
    eTold (x * y),
    eRCmp (hx.sz.mono (by decide)) (hy.sz.mono (by decide)),
    .eqv 136 (.bool ((cmpQ x y) != (cmpQ x y))) (.bool false) (ine_self (cmpQ x y)),
    eRSign (k := (-1)) (hy.sz.mono (by decide)) hs,
    eROver (hx.sz.mono (by decide)) (hy.sz.mono (by decide)) h0,
    eTold (x / y),
    eKnown]
    [] 4000 (.bool true) Tryz.func3 hmA (fun β => by kernel_rfl) w

theorem FracSums_walk {w0 : World} (b1 c1 b2 c2 : Bool) (s1 t1 s2 t2 : ByteArray) (hs1 : s1.size ≤ maxLen) (ht1 : t1.size ≤ maxLen) (hs2 : s2.size ≤ maxLen) (ht2 : t2.size ≤ maxLen) :
    Calls Tryz.prog 3 #[.agg #[.bool b1, .string s1, .bool c1, .string t1], .agg #[.bool b2, .string s2, .bool c2, .string t2]] w0 fun e w' => e = .returned (.bool true) ∧ Below w0.heap.size w0 w' := by
  by_cases hl : (s1.size ≤ 1100 ∧ t1.size ≤ 1100) ∧ (s2.size ≤ 1100 ∧ t2.size ≤ 1100)
  · by_cases h1 : IsFrac (rawV b1 c1 s1 t1)
    · by_cases h2 : IsFrac (rawV b2 c2 s2 t2)
      · obtain ⟨x, hx, ex⟩ := h1
        obtain ⟨y, hy, ey⟩ := h2
        unfold rawV at ex ey
        rw [ex, ey]
        by_cases h0 : y = 0
        · subst h0
          exact sums_zero hx w0
        · have hn : y.num ≠ 0 := fun e => h0 (Rat.num_eq_zero.1 e)
          rcases Int.lt_trichotomy y.num 0 with a | a | a
          · exact sums_neg hx hy h0 (Int.sign_eq_neg_one_of_neg a) w0
          · exact absurd a hn
          · exact sums_pos hx hy h0 (Int.sign_eq_one_of_pos a) w0
      · exact sums_10 b1 c1 b2 c2 s1 t1 s2 t2 hs1 ht1 hs2 ht2 hl h1 h2 (fun h => h2 h.2) w0
    · by_cases h2 : IsFrac (rawV b2 c2 s2 t2)
      · exact sums_01 b1 c1 b2 c2 s1 t1 s2 t2 hs1 ht1 hs2 ht2 hl h1 h2 (fun h => h1 h.1) w0
      · exact sums_00 b1 c1 b2 c2 s1 t1 s2 t2 hs1 ht1 hs2 ht2 hl h1 h2 (fun h => h1 h.1) w0
  · exact sums_long b1 c1 b2 c2 s1 t1 s2 t2 hl w0
end Go.Proofs.YtaenedjanckaiaaGreat
