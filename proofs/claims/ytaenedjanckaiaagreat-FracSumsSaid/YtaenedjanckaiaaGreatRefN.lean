/- The reference of layer 3. -/
import Derived.Test.YtaenedjanckaiaaGreatFra
namespace Go.Proofs.YtaenedjanckaiaaGreat
set_option linter.unnecessarySimpa false
set_option linter.unusedVariables false
set_option linter.unusedSimpArgs false
open Go.RowKit

theorem Sz.neg {k : Nat} {x : Rat} (h : Sz k x) : Sz k (-x) := ⟨by rw [show (-x).num = -x.num from rfl, sz_neg]; exact h.1, h.2⟩
theorem rneg_w {w : World} {p : Bool} {s : ByteArray} {n : Int} (h : (Value.agg #[.bool p, .string s]) = wholeV n) :
    Calls Tryz.prog 85 #[.agg #[.bool p, .string s]] w fun e w' => e = .returned (wholeV (-n)) ∧ Below w.heap.size w w' := by
  refine (rneg_any p s n (whole_cells h).1 (whole_cells h).2).mono ?_
  rintro e w' ⟨a, u, rfl, ha, hu, hb⟩
  exact ⟨by rw [ha.out, hu.out]; rfl, hb⟩

theorem formed_whole {p : Bool} {s : ByteArray} (h : FormedB p s) : (Value.agg #[.bool p, .string s]) = wholeV (numOf p s) := by
  obtain ⟨h1, h2⟩ := formed_num h
  unfold wholeV
  rw [h1, h2]
theorem sz_num {p : Bool} {s : ByteArray} (h : FormedB p s) {k : Nat} (hk : s.size ≤ k) : sz (numOf p s) ≤ k := by
  unfold sz
  rw [(formed_num h).2]
  exact hk
theorem rgcd_w {w0 : World} {p q : Bool} {s t : ByteArray} {n m : Int} (h : (Value.agg #[.bool p, .string s]) = wholeV n) (k : (Value.agg #[.bool q, .string t]) = wholeV m) (h1 : sz n ≤ 100000) (h2 : sz m ≤ 100000) :
    Calls Tryz.prog 91 #[.agg #[.bool p, .string s], .agg #[.bool q, .string t]] w0 fun e w' => e = .returned (wholeV ((Nat.gcd n.natAbs m.natAbs : Nat) : Int)) ∧ Below w0.heap.size w0 w' := by
  refine (rgcd_any p q s t n.natAbs m.natAbs (whole_cells h).2 (whole_cells k).2 (sz_of h h1) (sz_of k h2)).mono ?_
  rintro e w' ⟨g, rfl, hg, hb⟩
  refine ⟨?_, hb⟩
  unfold wholeV
  rw [hg.out, Int.natAbs_natCast, show decide (((Nat.gcd n.natAbs m.natAbs : Nat) : Int) < 0) = false from decide_eq_false (by omega)]
theorem r3fits_w {w : World} (b c : Bool) (s t : ByteArray) (r : Bool) (hr : r = true ↔ s.size ≤ 1024 ∧ t.size ≤ 1024) :
    Calls Tryz.prog 46 #[.agg #[.bool b, .string s, .bool c, .string t]] w fun e w' => e = .returned (.bool r) ∧ Below w.heap.size w w' := by
  refine (r3fits_any b c s t).mono ?_
  rintro e w' ⟨r', rfl, hr', hb⟩
  refine ⟨?_, hb⟩
  rw [Bool.eq_iff_iff.2 (hr'.trans hr.symm)]
/-- A fraction in its one form, however long. -/
def FracFormed (b c : Bool) (s t : ByteArray) : Prop := FormedB b s ∧ FormedB c t ∧ 0 < numOf c t ∧ Nat.gcd (numOf b s).natAbs (numOf c t).natAbs = 1
theorem eq_true_of {r : Bool} {P : Prop} (h : r = true ↔ P) (k : P) : r = true := h.2 k
theorem eq_false_of {r : Bool} {P : Prop} (h : r = true ↔ P) (k : ¬ P) : r = false := by
  cases r
  · rfl
  · exact absurd (h.1 rfl) k
theorem iff_false_of {P : Prop} (k : ¬ P) : false = true ↔ P := ⟨fun h => Bool.noConfusion h, fun h => absurd h k⟩
theorem iff_true_of {P : Prop} (k : P) : true = true ↔ P := ⟨fun _ => k, fun _ => rfl⟩

set_option maxHeartbeats 1600000 in
set_option maxRecDepth 100000 in
theorem r3plus_any {w0 : World} {b c b2 c2 : Bool} {s t s2 t2 : ByteArray} {x y : Rat} (hx : (Value.agg #[.bool b, .string s, .bool c, .string t]) = fracV x) (hy : (Value.agg #[.bool b2, .string s2, .bool c2, .string t2]) = fracV y) (bdx : Sz 20000 x) (bdy : Sz 20000 y) :
    Calls Tryz.prog 17 #[.agg #[.bool b, .string s, .bool c, .string t], .agg #[.bool b2, .string s2, .bool c2, .string t2]] w0 fun e w' => e = .returned (fracV (x + y)) ∧ Below w0.heap.size w0 w' := by
  have Hx0 := Lib.hid hx
  have Bx0 := Lib.hid bdx
  clear hx bdx
  have Hy0 := Lib.hid hy
  have By0 := Lib.hid bdy
  clear hy bdy
  have HF0 := Lib.hid (Fr.nil w0)
  go_enter Tryz.func17, Tryz.ntmps17
  have hc_0_0 := (((((HF0.out).push (w0.heap.size) #[.bool b, .string s, .bool c, .string t] 25 (by simp)).push (w0.heap.size + 1) #[.bool b2, .string s2, .bool c2, .string t2] 25 (by simp)).push (w0.heap.size + 1 + 1) #[.bool false, .string ⟨#[]⟩, .bool false, .string ⟨#[]⟩] 25 (by simp)).get 2 rfl).cell 0 (.bool b) rfl
  have hc_0_1 := (((((HF0.out).push (w0.heap.size) #[.bool b, .string s, .bool c, .string t] 25 (by simp)).push (w0.heap.size + 1) #[.bool b2, .string s2, .bool c2, .string t2] 25 (by simp)).push (w0.heap.size + 1 + 1) #[.bool false, .string ⟨#[]⟩, .bool false, .string ⟨#[]⟩] 25 (by simp)).get 2 rfl).cell 1 (.string s) rfl
  have hc_0_2 := (((((HF0.out).push (w0.heap.size) #[.bool b, .string s, .bool c, .string t] 25 (by simp)).push (w0.heap.size + 1) #[.bool b2, .string s2, .bool c2, .string t2] 25 (by simp)).push (w0.heap.size + 1 + 1) #[.bool false, .string ⟨#[]⟩, .bool false, .string ⟨#[]⟩] 25 (by simp)).get 2 rfl).cell 2 (.bool c) rfl
  have hc_0_3 := (((((HF0.out).push (w0.heap.size) #[.bool b, .string s, .bool c, .string t] 25 (by simp)).push (w0.heap.size + 1) #[.bool b2, .string s2, .bool c2, .string t2] 25 (by simp)).push (w0.heap.size + 1 + 1) #[.bool false, .string ⟨#[]⟩, .bool false, .string ⟨#[]⟩] 25 (by simp)).get 2 rfl).cell 3 (.string t) rfl
  have hc_0_4 := (((((HF0.out).push (w0.heap.size) #[.bool b, .string s, .bool c, .string t] 25 (by simp)).push (w0.heap.size + 1) #[.bool b2, .string s2, .bool c2, .string t2] 25 (by simp)).push (w0.heap.size + 1 + 1) #[.bool false, .string ⟨#[]⟩, .bool false, .string ⟨#[]⟩] 25 (by simp)).get 1 rfl).cell 0 (.bool b2) rfl
  have hc_0_5 := (((((HF0.out).push (w0.heap.size) #[.bool b, .string s, .bool c, .string t] 25 (by simp)).push (w0.heap.size + 1) #[.bool b2, .string s2, .bool c2, .string t2] 25 (by simp)).push (w0.heap.size + 1 + 1) #[.bool false, .string ⟨#[]⟩, .bool false, .string ⟨#[]⟩] 25 (by simp)).get 1 rfl).cell 1 (.string s2) rfl
  have hc_0_6 := (((((HF0.out).push (w0.heap.size) #[.bool b, .string s, .bool c, .string t] 25 (by simp)).push (w0.heap.size + 1) #[.bool b2, .string s2, .bool c2, .string t2] 25 (by simp)).push (w0.heap.size + 1 + 1) #[.bool false, .string ⟨#[]⟩, .bool false, .string ⟨#[]⟩] 25 (by simp)).get 1 rfl).cell 2 (.bool c2) rfl
  have hc_0_7 := (((((HF0.out).push (w0.heap.size) #[.bool b, .string s, .bool c, .string t] 25 (by simp)).push (w0.heap.size + 1) #[.bool b2, .string s2, .bool c2, .string t2] 25 (by simp)).push (w0.heap.size + 1 + 1) #[.bool false, .string ⟨#[]⟩, .bool false, .string ⟨#[]⟩] 25 (by simp)).get 1 rfl).cell 3 (.string t2) rfl
  obtain ⟨p11, s11, h11⟩ := wholeV_cells ((x).num * ((y).den : Int))
  have H11 := Lib.hid h11
  have B11 : Hid (sz ((x).num * ((y).den : Int)) ≤ 40000) := Nat.le_trans (sz_mul (Bx0.out).1 (By0.out).2) (by decide)
  clear h11
  go_wp2_with fail
  refine (rtimes_w (frac_num Hx0.out) (frac_den Hy0.out) (Nat.le_trans (Bx0.out).1 (by decide)) (Nat.le_trans (By0.out).2 (by decide))).mono ?_
  rintro e w11 ⟨rfl, hbw11⟩
  rw [← H11.out]
  have HF11 := Lib.hid (((((HF0.out).push (w0.heap.size) #[.bool b, .string s, .bool c, .string t] 25 (by simp)).push (w0.heap.size + 1) #[.bool b2, .string s2, .bool c2, .string t2] 25 (by simp)).push (w0.heap.size + 1 + 1) #[.bool false, .string ⟨#[]⟩, .bool false, .string ⟨#[]⟩] 25 (by simp)).on hbw11)
  clear hbw11 hc_0_0 hc_0_1 hc_0_2 hc_0_3 hc_0_4 hc_0_5 hc_0_6 hc_0_7
  have hc_1_0 := (((HF11.out).push (w11.heap.size) #[.bool p11, .string s11] 23 (by simp)).get 2 rfl).cell 0 (.bool b2) rfl
  have hc_1_1 := (((HF11.out).push (w11.heap.size) #[.bool p11, .string s11] 23 (by simp)).get 2 rfl).cell 1 (.string s2) rfl
  have hc_1_2 := (((HF11.out).push (w11.heap.size) #[.bool p11, .string s11] 23 (by simp)).get 2 rfl).cell 2 (.bool c2) rfl
  have hc_1_3 := (((HF11.out).push (w11.heap.size) #[.bool p11, .string s11] 23 (by simp)).get 2 rfl).cell 3 (.string t2) rfl
  have hc_1_4 := (((HF11.out).push (w11.heap.size) #[.bool p11, .string s11] 23 (by simp)).get 3 rfl).cell 0 (.bool b) rfl
  have hc_1_5 := (((HF11.out).push (w11.heap.size) #[.bool p11, .string s11] 23 (by simp)).get 3 rfl).cell 1 (.string s) rfl
  have hc_1_6 := (((HF11.out).push (w11.heap.size) #[.bool p11, .string s11] 23 (by simp)).get 3 rfl).cell 2 (.bool c) rfl
  have hc_1_7 := (((HF11.out).push (w11.heap.size) #[.bool p11, .string s11] 23 (by simp)).get 3 rfl).cell 3 (.string t) rfl
  obtain ⟨p16, s16, h16⟩ := wholeV_cells ((y).num * ((x).den : Int))
  have H16 := Lib.hid h16
  have B16 : Hid (sz ((y).num * ((x).den : Int)) ≤ 40000) := Nat.le_trans (sz_mul (By0.out).1 (Bx0.out).2) (by decide)
  clear h16
  go_wp2_with fail
  refine (rtimes_w (frac_num Hy0.out) (frac_den Hx0.out) (Nat.le_trans (By0.out).1 (by decide)) (Nat.le_trans (Bx0.out).2 (by decide))).mono ?_
  rintro e w12 ⟨rfl, hbw12⟩
  rw [← H16.out]
  have HF12 := Lib.hid (((HF11.out).push (w11.heap.size) #[.bool p11, .string s11] 23 (by simp)).on hbw12)
  clear hbw12 hc_1_0 hc_1_1 hc_1_2 hc_1_3 hc_1_4 hc_1_5 hc_1_6 hc_1_7
  go_wp2
  refine wp_world (fun w => Fr w0 w [(w12.heap.size, #[.bool p16, .string s16], 23), (w11.heap.size, #[.bool p11, .string s11], 23), (w0.heap.size + 1 + 1, #[.bool false, .string ⟨#[]⟩, .bool false, .string ⟨#[]⟩], 25), (w0.heap.size + 1, #[.bool b2, .string s2, .bool c2, .string t2], 25), (w0.heap.size, #[.bool b, .string s, .bool c, .string t], 25)]) ((HF12.out).push (w12.heap.size) #[.bool p16, .string s16] 23 (by simp)) ?_
  intro w13 hHF13
  have HF13 := Lib.hid hHF13
  clear hHF13
  obtain ⟨p19, s19, h19⟩ := wholeV_cells (((x).num * ((y).den : Int)) + ((y).num * ((x).den : Int)))
  have H19 := Lib.hid h19
  have B19 : Hid (sz (((x).num * ((y).den : Int)) + ((y).num * ((x).den : Int))) ≤ 40001) := Nat.le_trans (sz_add (i := 40000) (Nat.le_trans B11.out (by decide)) (Nat.le_trans B16.out (by decide))) (by decide)
  clear h19
  obtain ⟨p24, s24, h24⟩ := wholeV_cells (((x).den : Int) * ((y).den : Int))
  have H24 := Lib.hid h24
  have B24 : Hid (sz (((x).den : Int) * ((y).den : Int)) ≤ 40000) := Nat.le_trans (sz_mul (Bx0.out).2 (By0.out).2) (by decide)
  clear h24
  obtain ⟨p25, s25, q25, t25, h25⟩ := fracV_cells (x + y)
  have H25 := Lib.hid h25
  have B25 : Hid (Sz 40001 (x + y)) := Sz.add Bx0.out By0.out
  clear h25
  refine wp_region_acts 9 (fun w' => Fr w0 w' [(w12.heap.size, #[.bool p16, .string s16], 23), (w11.heap.size, #[.bool p11, .string s11], 23), (w0.heap.size + 1 + 1, #[.bool false, .string ⟨#[]⟩, .bool false, .string ⟨#[]⟩], 25), (w0.heap.size + 1, #[.bool b2, .string s2, .bool c2, .string t2], 25), (w0.heap.size, #[.bool b, .string s, .bool c, .string t], 25)] ∧ w13.heap.size ≤ w'.heap.size) (fun w w' => Below w.heap.size w w') (fun i w v => match i with
      | 0 => v = .agg #[.bool p11, .string s11]
      | 1 => v = .agg #[.bool p16, .string s16]
      | 2 => v = .agg #[.bool p19, .string s19]
      | 3 => v = .pointer (some ⟨w0.heap.size, 2, none⟩)
      | 4 => v = .agg #[.bool c, .string t]
      | 5 => v = .pointer (some ⟨w0.heap.size + 1, 2, none⟩)
      | 6 => v = .agg #[.bool c2, .string t2]
      | 7 => v = .agg #[.bool p24, .string s24]
      | _ => v = .agg #[.bool p25, .string s25, .bool q25, .string t25]) (by kernel_rfl) (by kernel_rfl) (by kernel_rfl) ⟨HF13.out.drew, Nat.le_refl _⟩ (fun _ _ => (Below.refl _ _)) ?_ ⟨?_, ?_, ?_, ?_, ?_, ?_, ?_, ?_, ?_, trivial⟩ ?_
  · intro i w1 w2 v hC hC2 hE hV
    match i with
    | 0 => exact hV
    | 1 => exact hV
    | 2 => exact hV
    | 3 => exact hV
    | 4 => exact hV
    | 5 => exact hV
    | 6 => exact hV
    | 7 => exact hV
    | _ + 8 => exact hV
  · intro a' w' hag hC hd K hK
    have e5 : a'.tmps.getD 5 undef = .pointer (some ⟨w11.heap.size, 0, none⟩) := hag 5 rfl
    have hc0 := (hC.1.get 1 rfl).cell 0 (.bool p11) rfl
    have hc1 := (hC.1.get 1 rfl).cell 1 (.string s11) rfl
    have HK := Lib.hid (hK (.agg #[.bool p11, .string s11]) _ hC (Below.refl _ _) rfl)
    clear hK hC
    go_step
    exact HK.out
  · intro a' w' hag hC hd K hK
    have e6 : a'.tmps.getD 6 undef = .pointer (some ⟨w12.heap.size, 0, none⟩) := hag 6 rfl
    have hc0 := (hC.1.get 0 rfl).cell 0 (.bool p16) rfl
    have hc1 := (hC.1.get 0 rfl).cell 1 (.string s16) rfl
    have HK := Lib.hid (hK (.agg #[.bool p16, .string s16]) _ hC (Below.refl _ _) rfl)
    clear hK hC
    go_step
    exact HK.out
  · intro a' w' hag hC hd K hK
    have e17 : a'.tmps.getD 17 undef = .agg #[.bool p11, .string s11] := hd.1
    have e18 : a'.tmps.getD 18 undef = .agg #[.bool p16, .string s16] := hd.2.1
    go_step
    refine (rplus_w H11.out H16.out (Nat.le_trans B11.out (by decide)) (Nat.le_trans B16.out (by decide))).mono ?_
    rintro e w2 ⟨rfl, hb⟩
    rw [← H19.out]
    exact hK _ _ ⟨hC.1.on hb, Nat.le_trans hC.2 hb.size⟩ hb rfl
  · intro a' w' hag hC hd K hK
    have e2 : a'.tmps.getD 2 undef = .pointer (some ⟨w0.heap.size, 0, none⟩) := hag 2 rfl
    go_step
    exact hK _ _ hC ((Below.refl _ _)) rfl
  · intro a' w' hag hC hd K hK
    have e20 : a'.tmps.getD 20 undef = .pointer (some ⟨w0.heap.size, 2, none⟩) := hd.1
    have hc0 := (hC.1.get 4 rfl).cell 2 (.bool c) rfl
    have hc1 := (hC.1.get 4 rfl).cell 3 (.string t) rfl
    have HK := Lib.hid (hK (.agg #[.bool c, .string t]) _ hC (Below.refl _ _) rfl)
    clear hK hC
    go_step
    exact HK.out
  · intro a' w' hag hC hd K hK
    have e3 : a'.tmps.getD 3 undef = .pointer (some ⟨w0.heap.size + 1, 0, none⟩) := hag 3 rfl
    go_step
    exact hK _ _ hC ((Below.refl _ _)) rfl
  · intro a' w' hag hC hd K hK
    have e22 : a'.tmps.getD 22 undef = .pointer (some ⟨w0.heap.size + 1, 2, none⟩) := hd.1
    have hc0 := (hC.1.get 3 rfl).cell 2 (.bool c2) rfl
    have hc1 := (hC.1.get 3 rfl).cell 3 (.string t2) rfl
    have HK := Lib.hid (hK (.agg #[.bool c2, .string t2]) _ hC (Below.refl _ _) rfl)
    clear hK hC
    go_step
    exact HK.out
  · intro a' w' hag hC hd K hK
    have e21 : a'.tmps.getD 21 undef = .agg #[.bool c, .string t] := hd.1
    have e23 : a'.tmps.getD 23 undef = .agg #[.bool c2, .string t2] := hd.2.1
    go_step
    refine (rtimes_w (frac_den Hx0.out) (frac_den Hy0.out) (Nat.le_trans (Bx0.out).2 (by decide)) (Nat.le_trans (By0.out).2 (by decide))).mono ?_
    rintro e w2 ⟨rfl, hb⟩
    rw [← H24.out]
    exact hK _ _ ⟨hC.1.on hb, Nat.le_trans hC.2 hb.size⟩ hb rfl
  · intro a' w' hag hC hd K hK
    have e19 : a'.tmps.getD 19 undef = .agg #[.bool p19, .string s19] := hd.1
    have e24 : a'.tmps.getD 24 undef = .agg #[.bool p24, .string s24] := hd.2.1
    go_step
    refine (r3of_w H19.out H24.out (Nat.le_trans B19.out (by decide)) (Nat.le_trans B24.out (by decide)) (Int.mul_ne_zero (den_ne x) (den_ne y))).mono ?_
    rintro e w2 ⟨rfl, hb⟩
    rw [divInt_Add x y, ← H25.out]
    exact hK _ _ ⟨hC.1.on hb, Nat.le_trans hC.2 hb.size⟩ hb rfl
  · intro u w' hC hall
    obtain ⟨u0, u1, u2, u3, u4, u5, u6, u7, u8, _⟩ := hall
    have u0 : u 0 = .agg #[.bool p11, .string s11] := u0
    have u1 : u 1 = .agg #[.bool p16, .string s16] := u1
    have u2 : u 2 = .agg #[.bool p19, .string s19] := u2
    have u3 : u 3 = .pointer (some ⟨w0.heap.size, 2, none⟩) := u3
    have u4 : u 4 = .agg #[.bool c, .string t] := u4
    have u5 : u 5 = .pointer (some ⟨w0.heap.size + 1, 2, none⟩) := u5
    have u6 : u 6 = .agg #[.bool c2, .string t2] := u6
    have u7 : u 7 = .agg #[.bool p24, .string s24] := u7
    have u8 : u 8 = .agg #[.bool p25, .string s25, .bool q25, .string t25] := u8
    simp only [fillR, List.take_succ_cons, List.take_zero, Act.put, List.setIfInBounds_toArray, List.set_cons_succ, List.set_cons_zero, Nat.zero_add, Nat.reduceAdd, u0, u1, u2, u3, u4, u5, u6, u7, u8]
    clear u0 u1 u2 u3 u4 u5 u6 u7 u8
    have HF_3 := Lib.hid (hC.1)
    clear hC
    have hc_3_0 := ((HF_3.out).get 2 rfl).cell 0 (.bool false) rfl
    have hc_3_1 := ((HF_3.out).get 2 rfl).cell 1 (.string ⟨#[]⟩) rfl
    have hc_3_2 := ((HF_3.out).get 2 rfl).cell 2 (.bool false) rfl
    have hc_3_3 := ((HF_3.out).get 2 rfl).cell 3 (.string ⟨#[]⟩) rfl
    have hf_3_4 := ((HF_3.out).get 2 rfl).frozen
    go_wp2
    have hk := ((((HF_3.out).put 2 rfl 0 (.bool p25)).put 2 rfl 1 (.string s25)).put 2 rfl 2 (.bool q25)).put 2 rfl 3 (.string t25)
    have k2_0 := (hk.get 2 rfl).cell 0 (.bool p25) rfl
    have k2_1 := (hk.get 2 rfl).cell 1 (.string s25) rfl
    have k2_2 := (hk.get 2 rfl).cell 2 (.bool q25) rfl
    have k2_3 := (hk.get 2 rfl).cell 3 (.string t25) rfl
    exact bodyPost_ret (v := .agg #[.bool p25, .string s25, .bool q25, .string t25]) (by simp [results, Tryz.results17, go_sem, k2_0, k2_1, k2_2, k2_3]) rfl ⟨by rw [H25.out], hk.below⟩
set_option maxHeartbeats 1600000 in
set_option maxRecDepth 100000 in
theorem r3times_any {w0 : World} {b c b2 c2 : Bool} {s t s2 t2 : ByteArray} {x y : Rat} (hx : (Value.agg #[.bool b, .string s, .bool c, .string t]) = fracV x) (hy : (Value.agg #[.bool b2, .string s2, .bool c2, .string t2]) = fracV y) (bdx : Sz 20000 x) (bdy : Sz 20000 y) :
    Calls Tryz.prog 19 #[.agg #[.bool b, .string s, .bool c, .string t], .agg #[.bool b2, .string s2, .bool c2, .string t2]] w0 fun e w' => e = .returned (fracV (x * y)) ∧ Below w0.heap.size w0 w' := by
  have Hx0 := Lib.hid hx
  have Bx0 := Lib.hid bdx
  clear hx bdx
  have Hy0 := Lib.hid hy
  have By0 := Lib.hid bdy
  clear hy bdy
  have HF0 := Lib.hid (Fr.nil w0)
  go_enter Tryz.func19, Tryz.ntmps19
  go_wp2
  refine wp_world (fun w => Fr w0 w [(w0.heap.size + 1 + 1, #[.bool false, .string ⟨#[]⟩, .bool false, .string ⟨#[]⟩], 25), (w0.heap.size + 1, #[.bool b2, .string s2, .bool c2, .string t2], 25), (w0.heap.size, #[.bool b, .string s, .bool c, .string t], 25)]) ((((HF0.out).push (w0.heap.size) #[.bool b, .string s, .bool c, .string t] 25 (by simp)).push (w0.heap.size + 1) #[.bool b2, .string s2, .bool c2, .string t2] 25 (by simp)).push (w0.heap.size + 1 + 1) #[.bool false, .string ⟨#[]⟩, .bool false, .string ⟨#[]⟩] 25 (by simp)) ?_
  intro w11 hHF11
  have HF11 := Lib.hid hHF11
  clear hHF11
  obtain ⟨p9, s9, h9⟩ := wholeV_cells ((x).num * (y).num)
  have H9 := Lib.hid h9
  have B9 : Hid (sz ((x).num * (y).num) ≤ 40000) := Nat.le_trans (sz_mul (Bx0.out).1 (By0.out).1) (by decide)
  clear h9
  obtain ⟨p14, s14, h14⟩ := wholeV_cells (((x).den : Int) * ((y).den : Int))
  have H14 := Lib.hid h14
  have B14 : Hid (sz (((x).den : Int) * ((y).den : Int)) ≤ 40000) := Nat.le_trans (sz_mul (Bx0.out).2 (By0.out).2) (by decide)
  clear h14
  obtain ⟨p15, s15, q15, t15, h15⟩ := fracV_cells (x * y)
  have H15 := Lib.hid h15
  have B15 : Hid (Sz 40000 (x * y)) := Sz.mul Bx0.out By0.out
  clear h15
  refine wp_region_acts 11 (fun w' => Fr w0 w' [(w0.heap.size + 1 + 1, #[.bool false, .string ⟨#[]⟩, .bool false, .string ⟨#[]⟩], 25), (w0.heap.size + 1, #[.bool b2, .string s2, .bool c2, .string t2], 25), (w0.heap.size, #[.bool b, .string s, .bool c, .string t], 25)] ∧ w11.heap.size ≤ w'.heap.size) (fun w w' => Below w.heap.size w w') (fun i w v => match i with
      | 0 => v = .pointer (some ⟨w0.heap.size, 0, none⟩)
      | 1 => v = .agg #[.bool b, .string s]
      | 2 => v = .pointer (some ⟨w0.heap.size + 1, 0, none⟩)
      | 3 => v = .agg #[.bool b2, .string s2]
      | 4 => v = .agg #[.bool p9, .string s9]
      | 5 => v = .pointer (some ⟨w0.heap.size, 2, none⟩)
      | 6 => v = .agg #[.bool c, .string t]
      | 7 => v = .pointer (some ⟨w0.heap.size + 1, 2, none⟩)
      | 8 => v = .agg #[.bool c2, .string t2]
      | 9 => v = .agg #[.bool p14, .string s14]
      | _ => v = .agg #[.bool p15, .string s15, .bool q15, .string t15]) (by kernel_rfl) (by kernel_rfl) (by kernel_rfl) ⟨HF11.out.drew, Nat.le_refl _⟩ (fun _ _ => (Below.refl _ _)) ?_ ⟨?_, ?_, ?_, ?_, ?_, ?_, ?_, ?_, ?_, ?_, ?_, trivial⟩ ?_
  · intro i w1 w2 v hC hC2 hE hV
    match i with
    | 0 => exact hV
    | 1 => exact hV
    | 2 => exact hV
    | 3 => exact hV
    | 4 => exact hV
    | 5 => exact hV
    | 6 => exact hV
    | 7 => exact hV
    | 8 => exact hV
    | 9 => exact hV
    | _ + 10 => exact hV
  · intro a' w' hag hC hd K hK
    have e2 : a'.tmps.getD 2 undef = .pointer (some ⟨w0.heap.size, 0, none⟩) := hag 2 rfl
    go_step
    exact hK _ _ hC ((Below.refl _ _)) rfl
  · intro a' w' hag hC hd K hK
    have e5 : a'.tmps.getD 5 undef = .pointer (some ⟨w0.heap.size, 0, none⟩) := hd.1
    have hc0 := (hC.1.get 2 rfl).cell 0 (.bool b) rfl
    have hc1 := (hC.1.get 2 rfl).cell 1 (.string s) rfl
    have HK := Lib.hid (hK (.agg #[.bool b, .string s]) _ hC (Below.refl _ _) rfl)
    clear hK hC
    go_step
    exact HK.out
  · intro a' w' hag hC hd K hK
    have e3 : a'.tmps.getD 3 undef = .pointer (some ⟨w0.heap.size + 1, 0, none⟩) := hag 3 rfl
    go_step
    exact hK _ _ hC ((Below.refl _ _)) rfl
  · intro a' w' hag hC hd K hK
    have e7 : a'.tmps.getD 7 undef = .pointer (some ⟨w0.heap.size + 1, 0, none⟩) := hd.1
    have hc0 := (hC.1.get 1 rfl).cell 0 (.bool b2) rfl
    have hc1 := (hC.1.get 1 rfl).cell 1 (.string s2) rfl
    have HK := Lib.hid (hK (.agg #[.bool b2, .string s2]) _ hC (Below.refl _ _) rfl)
    clear hK hC
    go_step
    exact HK.out
  · intro a' w' hag hC hd K hK
    have e6 : a'.tmps.getD 6 undef = .agg #[.bool b, .string s] := hd.1
    have e8 : a'.tmps.getD 8 undef = .agg #[.bool b2, .string s2] := hd.2.1
    go_step
    refine (rtimes_w (frac_num Hx0.out) (frac_num Hy0.out) (Nat.le_trans (Bx0.out).1 (by decide)) (Nat.le_trans (By0.out).1 (by decide))).mono ?_
    rintro e w2 ⟨rfl, hb⟩
    rw [← H9.out]
    exact hK _ _ ⟨hC.1.on hb, Nat.le_trans hC.2 hb.size⟩ hb rfl
  · intro a' w' hag hC hd K hK
    have e2 : a'.tmps.getD 2 undef = .pointer (some ⟨w0.heap.size, 0, none⟩) := hag 2 rfl
    go_step
    exact hK _ _ hC ((Below.refl _ _)) rfl
  · intro a' w' hag hC hd K hK
    have e10 : a'.tmps.getD 10 undef = .pointer (some ⟨w0.heap.size, 2, none⟩) := hd.1
    have hc0 := (hC.1.get 2 rfl).cell 2 (.bool c) rfl
    have hc1 := (hC.1.get 2 rfl).cell 3 (.string t) rfl
    have HK := Lib.hid (hK (.agg #[.bool c, .string t]) _ hC (Below.refl _ _) rfl)
    clear hK hC
    go_step
    exact HK.out
  · intro a' w' hag hC hd K hK
    have e3 : a'.tmps.getD 3 undef = .pointer (some ⟨w0.heap.size + 1, 0, none⟩) := hag 3 rfl
    go_step
    exact hK _ _ hC ((Below.refl _ _)) rfl
  · intro a' w' hag hC hd K hK
    have e12 : a'.tmps.getD 12 undef = .pointer (some ⟨w0.heap.size + 1, 2, none⟩) := hd.1
    have hc0 := (hC.1.get 1 rfl).cell 2 (.bool c2) rfl
    have hc1 := (hC.1.get 1 rfl).cell 3 (.string t2) rfl
    have HK := Lib.hid (hK (.agg #[.bool c2, .string t2]) _ hC (Below.refl _ _) rfl)
    clear hK hC
    go_step
    exact HK.out
  · intro a' w' hag hC hd K hK
    have e11 : a'.tmps.getD 11 undef = .agg #[.bool c, .string t] := hd.1
    have e13 : a'.tmps.getD 13 undef = .agg #[.bool c2, .string t2] := hd.2.1
    go_step
    refine (rtimes_w (frac_den Hx0.out) (frac_den Hy0.out) (Nat.le_trans (Bx0.out).2 (by decide)) (Nat.le_trans (By0.out).2 (by decide))).mono ?_
    rintro e w2 ⟨rfl, hb⟩
    rw [← H14.out]
    exact hK _ _ ⟨hC.1.on hb, Nat.le_trans hC.2 hb.size⟩ hb rfl
  · intro a' w' hag hC hd K hK
    have e9 : a'.tmps.getD 9 undef = .agg #[.bool p9, .string s9] := hd.1
    have e14 : a'.tmps.getD 14 undef = .agg #[.bool p14, .string s14] := hd.2.1
    go_step
    refine (r3of_w H9.out H14.out (Nat.le_trans B9.out (by decide)) (Nat.le_trans B14.out (by decide)) (Int.mul_ne_zero (den_ne x) (den_ne y))).mono ?_
    rintro e w2 ⟨rfl, hb⟩
    rw [divInt_mul x y, ← H15.out]
    exact hK _ _ ⟨hC.1.on hb, Nat.le_trans hC.2 hb.size⟩ hb rfl
  · intro u w' hC hall
    obtain ⟨u0, u1, u2, u3, u4, u5, u6, u7, u8, u9, u10, _⟩ := hall
    have u0 : u 0 = .pointer (some ⟨w0.heap.size, 0, none⟩) := u0
    have u1 : u 1 = .agg #[.bool b, .string s] := u1
    have u2 : u 2 = .pointer (some ⟨w0.heap.size + 1, 0, none⟩) := u2
    have u3 : u 3 = .agg #[.bool b2, .string s2] := u3
    have u4 : u 4 = .agg #[.bool p9, .string s9] := u4
    have u5 : u 5 = .pointer (some ⟨w0.heap.size, 2, none⟩) := u5
    have u6 : u 6 = .agg #[.bool c, .string t] := u6
    have u7 : u 7 = .pointer (some ⟨w0.heap.size + 1, 2, none⟩) := u7
    have u8 : u 8 = .agg #[.bool c2, .string t2] := u8
    have u9 : u 9 = .agg #[.bool p14, .string s14] := u9
    have u10 : u 10 = .agg #[.bool p15, .string s15, .bool q15, .string t15] := u10
    simp only [fillR, List.take_succ_cons, List.take_zero, Act.put, List.setIfInBounds_toArray, List.set_cons_succ, List.set_cons_zero, Nat.zero_add, Nat.reduceAdd, u0, u1, u2, u3, u4, u5, u6, u7, u8, u9, u10]
    clear u0 u1 u2 u3 u4 u5 u6 u7 u8 u9 u10
    have HF_1 := Lib.hid (hC.1)
    clear hC
    have hc_1_0 := ((HF_1.out).get 0 rfl).cell 0 (.bool false) rfl
    have hc_1_1 := ((HF_1.out).get 0 rfl).cell 1 (.string ⟨#[]⟩) rfl
    have hc_1_2 := ((HF_1.out).get 0 rfl).cell 2 (.bool false) rfl
    have hc_1_3 := ((HF_1.out).get 0 rfl).cell 3 (.string ⟨#[]⟩) rfl
    have hf_1_4 := ((HF_1.out).get 0 rfl).frozen
    go_wp2
    have hk := ((((HF_1.out).put 0 rfl 0 (.bool p15)).put 0 rfl 1 (.string s15)).put 0 rfl 2 (.bool q15)).put 0 rfl 3 (.string t15)
    have k0_0 := (hk.get 0 rfl).cell 0 (.bool p15) rfl
    have k0_1 := (hk.get 0 rfl).cell 1 (.string s15) rfl
    have k0_2 := (hk.get 0 rfl).cell 2 (.bool q15) rfl
    have k0_3 := (hk.get 0 rfl).cell 3 (.string t15) rfl
    exact bodyPost_ret (v := .agg #[.bool p15, .string s15, .bool q15, .string t15]) (by simp [results, Tryz.results19, go_sem, k0_0, k0_1, k0_2, k0_3]) rfl ⟨by rw [H15.out], hk.below⟩
set_option maxHeartbeats 1600000 in
set_option maxRecDepth 100000 in
theorem r3over_any {w0 : World} {b c b2 c2 : Bool} {s t s2 t2 : ByteArray} {x y : Rat} (hx : (Value.agg #[.bool b, .string s, .bool c, .string t]) = fracV x) (hy : (Value.agg #[.bool b2, .string s2, .bool c2, .string t2]) = fracV y) (bdx : Sz 20000 x) (bdy : Sz 20000 y) (h0 : y ≠ 0) :
    Calls Tryz.prog 22 #[.agg #[.bool b, .string s, .bool c, .string t], .agg #[.bool b2, .string s2, .bool c2, .string t2]] w0 fun e w' => e = .returned (fracV (x / y)) ∧ Below w0.heap.size w0 w' := by
  have Hx0 := Lib.hid hx
  have Bx0 := Lib.hid bdx
  clear hx bdx
  have Hy0 := Lib.hid hy
  have By0 := Lib.hid bdy
  clear hy bdy
  have H00 := Lib.hid h0
  clear h0
  have HF0 := Lib.hid (Fr.nil w0)
  go_enter Tryz.func22, Tryz.ntmps22
  go_wp2
  refine wp_world (fun w => Fr w0 w [(w0.heap.size + 1 + 1, #[.bool false, .string ⟨#[]⟩, .bool false, .string ⟨#[]⟩], 25), (w0.heap.size + 1, #[.bool b2, .string s2, .bool c2, .string t2], 25), (w0.heap.size, #[.bool b, .string s, .bool c, .string t], 25)]) ((((HF0.out).push (w0.heap.size) #[.bool b, .string s, .bool c, .string t] 25 (by simp)).push (w0.heap.size + 1) #[.bool b2, .string s2, .bool c2, .string t2] 25 (by simp)).push (w0.heap.size + 1 + 1) #[.bool false, .string ⟨#[]⟩, .bool false, .string ⟨#[]⟩] 25 (by simp)) ?_
  intro w11 hHF11
  have HF11 := Lib.hid hHF11
  clear hHF11
  obtain ⟨p9, s9, h9⟩ := wholeV_cells ((x).num * ((y).den : Int))
  have H9 := Lib.hid h9
  have B9 : Hid (sz ((x).num * ((y).den : Int)) ≤ 40000) := Nat.le_trans (sz_mul (Bx0.out).1 (By0.out).2) (by decide)
  clear h9
  obtain ⟨p14, s14, h14⟩ := wholeV_cells (((x).den : Int) * (y).num)
  have H14 := Lib.hid h14
  have B14 : Hid (sz (((x).den : Int) * (y).num) ≤ 40000) := Nat.le_trans (sz_mul (Bx0.out).2 (By0.out).1) (by decide)
  clear h14
  obtain ⟨p15, s15, q15, t15, h15⟩ := fracV_cells (x / y)
  have H15 := Lib.hid h15
  have B15 : Hid (Sz 40000 (x / y)) := Sz.div Bx0.out By0.out H00.out
  clear h15
  refine wp_region_acts 11 (fun w' => Fr w0 w' [(w0.heap.size + 1 + 1, #[.bool false, .string ⟨#[]⟩, .bool false, .string ⟨#[]⟩], 25), (w0.heap.size + 1, #[.bool b2, .string s2, .bool c2, .string t2], 25), (w0.heap.size, #[.bool b, .string s, .bool c, .string t], 25)] ∧ w11.heap.size ≤ w'.heap.size) (fun w w' => Below w.heap.size w w') (fun i w v => match i with
      | 0 => v = .pointer (some ⟨w0.heap.size, 0, none⟩)
      | 1 => v = .agg #[.bool b, .string s]
      | 2 => v = .pointer (some ⟨w0.heap.size + 1, 2, none⟩)
      | 3 => v = .agg #[.bool c2, .string t2]
      | 4 => v = .agg #[.bool p9, .string s9]
      | 5 => v = .pointer (some ⟨w0.heap.size, 2, none⟩)
      | 6 => v = .agg #[.bool c, .string t]
      | 7 => v = .pointer (some ⟨w0.heap.size + 1, 0, none⟩)
      | 8 => v = .agg #[.bool b2, .string s2]
      | 9 => v = .agg #[.bool p14, .string s14]
      | _ => v = .agg #[.bool p15, .string s15, .bool q15, .string t15]) (by kernel_rfl) (by kernel_rfl) (by kernel_rfl) ⟨HF11.out.drew, Nat.le_refl _⟩ (fun _ _ => (Below.refl _ _)) ?_ ⟨?_, ?_, ?_, ?_, ?_, ?_, ?_, ?_, ?_, ?_, ?_, trivial⟩ ?_
  · intro i w1 w2 v hC hC2 hE hV
    match i with
    | 0 => exact hV
    | 1 => exact hV
    | 2 => exact hV
    | 3 => exact hV
    | 4 => exact hV
    | 5 => exact hV
    | 6 => exact hV
    | 7 => exact hV
    | 8 => exact hV
    | 9 => exact hV
    | _ + 10 => exact hV
  · intro a' w' hag hC hd K hK
    have e2 : a'.tmps.getD 2 undef = .pointer (some ⟨w0.heap.size, 0, none⟩) := hag 2 rfl
    go_step
    exact hK _ _ hC ((Below.refl _ _)) rfl
  · intro a' w' hag hC hd K hK
    have e5 : a'.tmps.getD 5 undef = .pointer (some ⟨w0.heap.size, 0, none⟩) := hd.1
    have hc0 := (hC.1.get 2 rfl).cell 0 (.bool b) rfl
    have hc1 := (hC.1.get 2 rfl).cell 1 (.string s) rfl
    have HK := Lib.hid (hK (.agg #[.bool b, .string s]) _ hC (Below.refl _ _) rfl)
    clear hK hC
    go_step
    exact HK.out
  · intro a' w' hag hC hd K hK
    have e3 : a'.tmps.getD 3 undef = .pointer (some ⟨w0.heap.size + 1, 0, none⟩) := hag 3 rfl
    go_step
    exact hK _ _ hC ((Below.refl _ _)) rfl
  · intro a' w' hag hC hd K hK
    have e7 : a'.tmps.getD 7 undef = .pointer (some ⟨w0.heap.size + 1, 2, none⟩) := hd.1
    have hc0 := (hC.1.get 1 rfl).cell 2 (.bool c2) rfl
    have hc1 := (hC.1.get 1 rfl).cell 3 (.string t2) rfl
    have HK := Lib.hid (hK (.agg #[.bool c2, .string t2]) _ hC (Below.refl _ _) rfl)
    clear hK hC
    go_step
    exact HK.out
  · intro a' w' hag hC hd K hK
    have e6 : a'.tmps.getD 6 undef = .agg #[.bool b, .string s] := hd.1
    have e8 : a'.tmps.getD 8 undef = .agg #[.bool c2, .string t2] := hd.2.1
    go_step
    refine (rtimes_w (frac_num Hx0.out) (frac_den Hy0.out) (Nat.le_trans (Bx0.out).1 (by decide)) (Nat.le_trans (By0.out).2 (by decide))).mono ?_
    rintro e w2 ⟨rfl, hb⟩
    rw [← H9.out]
    exact hK _ _ ⟨hC.1.on hb, Nat.le_trans hC.2 hb.size⟩ hb rfl
  · intro a' w' hag hC hd K hK
    have e2 : a'.tmps.getD 2 undef = .pointer (some ⟨w0.heap.size, 0, none⟩) := hag 2 rfl
    go_step
    exact hK _ _ hC ((Below.refl _ _)) rfl
  · intro a' w' hag hC hd K hK
    have e10 : a'.tmps.getD 10 undef = .pointer (some ⟨w0.heap.size, 2, none⟩) := hd.1
    have hc0 := (hC.1.get 2 rfl).cell 2 (.bool c) rfl
    have hc1 := (hC.1.get 2 rfl).cell 3 (.string t) rfl
    have HK := Lib.hid (hK (.agg #[.bool c, .string t]) _ hC (Below.refl _ _) rfl)
    clear hK hC
    go_step
    exact HK.out
  · intro a' w' hag hC hd K hK
    have e3 : a'.tmps.getD 3 undef = .pointer (some ⟨w0.heap.size + 1, 0, none⟩) := hag 3 rfl
    go_step
    exact hK _ _ hC ((Below.refl _ _)) rfl
  · intro a' w' hag hC hd K hK
    have e12 : a'.tmps.getD 12 undef = .pointer (some ⟨w0.heap.size + 1, 0, none⟩) := hd.1
    have hc0 := (hC.1.get 1 rfl).cell 0 (.bool b2) rfl
    have hc1 := (hC.1.get 1 rfl).cell 1 (.string s2) rfl
    have HK := Lib.hid (hK (.agg #[.bool b2, .string s2]) _ hC (Below.refl _ _) rfl)
    clear hK hC
    go_step
    exact HK.out
  · intro a' w' hag hC hd K hK
    have e11 : a'.tmps.getD 11 undef = .agg #[.bool c, .string t] := hd.1
    have e13 : a'.tmps.getD 13 undef = .agg #[.bool b2, .string s2] := hd.2.1
    go_step
    refine (rtimes_w (frac_den Hx0.out) (frac_num Hy0.out) (Nat.le_trans (Bx0.out).2 (by decide)) (Nat.le_trans (By0.out).1 (by decide))).mono ?_
    rintro e w2 ⟨rfl, hb⟩
    rw [← H14.out]
    exact hK _ _ ⟨hC.1.on hb, Nat.le_trans hC.2 hb.size⟩ hb rfl
  · intro a' w' hag hC hd K hK
    have e9 : a'.tmps.getD 9 undef = .agg #[.bool p9, .string s9] := hd.1
    have e14 : a'.tmps.getD 14 undef = .agg #[.bool p14, .string s14] := hd.2.1
    go_step
    refine (r3of_w H9.out H14.out (Nat.le_trans B9.out (by decide)) (Nat.le_trans B14.out (by decide)) (Int.mul_ne_zero (den_ne x) fun e => H00.out (Rat.num_eq_zero.1 e))).mono ?_
    rintro e w2 ⟨rfl, hb⟩
    rw [divInt_quo x y, ← H15.out]
    exact hK _ _ ⟨hC.1.on hb, Nat.le_trans hC.2 hb.size⟩ hb rfl
  · intro u w' hC hall
    obtain ⟨u0, u1, u2, u3, u4, u5, u6, u7, u8, u9, u10, _⟩ := hall
    have u0 : u 0 = .pointer (some ⟨w0.heap.size, 0, none⟩) := u0
    have u1 : u 1 = .agg #[.bool b, .string s] := u1
    have u2 : u 2 = .pointer (some ⟨w0.heap.size + 1, 2, none⟩) := u2
    have u3 : u 3 = .agg #[.bool c2, .string t2] := u3
    have u4 : u 4 = .agg #[.bool p9, .string s9] := u4
    have u5 : u 5 = .pointer (some ⟨w0.heap.size, 2, none⟩) := u5
    have u6 : u 6 = .agg #[.bool c, .string t] := u6
    have u7 : u 7 = .pointer (some ⟨w0.heap.size + 1, 0, none⟩) := u7
    have u8 : u 8 = .agg #[.bool b2, .string s2] := u8
    have u9 : u 9 = .agg #[.bool p14, .string s14] := u9
    have u10 : u 10 = .agg #[.bool p15, .string s15, .bool q15, .string t15] := u10
    simp only [fillR, List.take_succ_cons, List.take_zero, Act.put, List.setIfInBounds_toArray, List.set_cons_succ, List.set_cons_zero, Nat.zero_add, Nat.reduceAdd, u0, u1, u2, u3, u4, u5, u6, u7, u8, u9, u10]
    clear u0 u1 u2 u3 u4 u5 u6 u7 u8 u9 u10
    have HF_1 := Lib.hid (hC.1)
    clear hC
    have hc_1_0 := ((HF_1.out).get 0 rfl).cell 0 (.bool false) rfl
    have hc_1_1 := ((HF_1.out).get 0 rfl).cell 1 (.string ⟨#[]⟩) rfl
    have hc_1_2 := ((HF_1.out).get 0 rfl).cell 2 (.bool false) rfl
    have hc_1_3 := ((HF_1.out).get 0 rfl).cell 3 (.string ⟨#[]⟩) rfl
    have hf_1_4 := ((HF_1.out).get 0 rfl).frozen
    go_wp2
    have hk := ((((HF_1.out).put 0 rfl 0 (.bool p15)).put 0 rfl 1 (.string s15)).put 0 rfl 2 (.bool q15)).put 0 rfl 3 (.string t15)
    have k0_0 := (hk.get 0 rfl).cell 0 (.bool p15) rfl
    have k0_1 := (hk.get 0 rfl).cell 1 (.string s15) rfl
    have k0_2 := (hk.get 0 rfl).cell 2 (.bool q15) rfl
    have k0_3 := (hk.get 0 rfl).cell 3 (.string t15) rfl
    exact bodyPost_ret (v := .agg #[.bool p15, .string s15, .bool q15, .string t15]) (by simp [results, Tryz.results22, go_sem, k0_0, k0_1, k0_2, k0_3]) rfl ⟨by rw [H15.out], hk.below⟩
set_option maxHeartbeats 1600000 in
set_option maxRecDepth 100000 in
theorem r3cmp_any {w0 : World} {b c b2 c2 : Bool} {s t s2 t2 : ByteArray} {x y : Rat} (hx : (Value.agg #[.bool b, .string s, .bool c, .string t]) = fracV x) (hy : (Value.agg #[.bool b2, .string s2, .bool c2, .string t2]) = fracV y) (bdx : Sz 20000 x) (bdy : Sz 20000 y) :
    Calls Tryz.prog 20 #[.agg #[.bool b, .string s, .bool c, .string t], .agg #[.bool b2, .string s2, .bool c2, .string t2]] w0 fun e w' => e = .returned (.int .i64 (cmpQ x y)) ∧ Below w0.heap.size w0 w' := by
  have Hx0 := Lib.hid hx
  have Bx0 := Lib.hid bdx
  clear hx bdx
  have Hy0 := Lib.hid hy
  have By0 := Lib.hid bdy
  clear hy bdy
  have HF0 := Lib.hid (Fr.nil w0)
  go_enter Tryz.func20, Tryz.ntmps20
  go_wp2
  refine wp_world (fun w => Fr w0 w [(w0.heap.size + 1, #[.bool b2, .string s2, .bool c2, .string t2], 25), (w0.heap.size, #[.bool b, .string s, .bool c, .string t], 25)]) (((HF0.out).push (w0.heap.size) #[.bool b, .string s, .bool c, .string t] 25 (by simp)).push (w0.heap.size + 1) #[.bool b2, .string s2, .bool c2, .string t2] 25 (by simp)) ?_
  intro w11 hHF11
  have HF11 := Lib.hid hHF11
  clear hHF11
  obtain ⟨p9, s9, h9⟩ := wholeV_cells ((x).num * ((y).den : Int))
  have H9 := Lib.hid h9
  have B9 : Hid (sz ((x).num * ((y).den : Int)) ≤ 40000) := Nat.le_trans (sz_mul (Bx0.out).1 (By0.out).2) (by decide)
  clear h9
  obtain ⟨p14, s14, h14⟩ := wholeV_cells ((y).num * ((x).den : Int))
  have H14 := Lib.hid h14
  have B14 : Hid (sz ((y).num * ((x).den : Int)) ≤ 40000) := Nat.le_trans (sz_mul (By0.out).1 (Bx0.out).2) (by decide)
  clear h14
  obtain ⟨a15, h15⟩ : ∃ a : Int, a = cmpQ x y := ⟨_, rfl⟩
  have H15 := Lib.hid h15
  clear h15
  refine wp_region_acts 11 (fun w' => Fr w0 w' [(w0.heap.size + 1, #[.bool b2, .string s2, .bool c2, .string t2], 25), (w0.heap.size, #[.bool b, .string s, .bool c, .string t], 25)] ∧ w11.heap.size ≤ w'.heap.size) (fun w w' => Below w.heap.size w w') (fun i w v => match i with
      | 0 => v = .pointer (some ⟨w0.heap.size, 0, none⟩)
      | 1 => v = .agg #[.bool b, .string s]
      | 2 => v = .pointer (some ⟨w0.heap.size + 1, 2, none⟩)
      | 3 => v = .agg #[.bool c2, .string t2]
      | 4 => v = .agg #[.bool p9, .string s9]
      | 5 => v = .pointer (some ⟨w0.heap.size + 1, 0, none⟩)
      | 6 => v = .agg #[.bool b2, .string s2]
      | 7 => v = .pointer (some ⟨w0.heap.size, 2, none⟩)
      | 8 => v = .agg #[.bool c, .string t]
      | 9 => v = .agg #[.bool p14, .string s14]
      | _ => v = .int .i64 a15) (by kernel_rfl) (by kernel_rfl) (by kernel_rfl) ⟨HF11.out.drew, Nat.le_refl _⟩ (fun _ _ => (Below.refl _ _)) ?_ ⟨?_, ?_, ?_, ?_, ?_, ?_, ?_, ?_, ?_, ?_, ?_, trivial⟩ ?_
  · intro i w1 w2 v hC hC2 hE hV
    match i with
    | 0 => exact hV
    | 1 => exact hV
    | 2 => exact hV
    | 3 => exact hV
    | 4 => exact hV
    | 5 => exact hV
    | 6 => exact hV
    | 7 => exact hV
    | 8 => exact hV
    | 9 => exact hV
    | _ + 10 => exact hV
  · intro a' w' hag hC hd K hK
    have e2 : a'.tmps.getD 2 undef = .pointer (some ⟨w0.heap.size, 0, none⟩) := hag 2 rfl
    go_step
    exact hK _ _ hC ((Below.refl _ _)) rfl
  · intro a' w' hag hC hd K hK
    have e5 : a'.tmps.getD 5 undef = .pointer (some ⟨w0.heap.size, 0, none⟩) := hd.1
    have hc0 := (hC.1.get 1 rfl).cell 0 (.bool b) rfl
    have hc1 := (hC.1.get 1 rfl).cell 1 (.string s) rfl
    have HK := Lib.hid (hK (.agg #[.bool b, .string s]) _ hC (Below.refl _ _) rfl)
    clear hK hC
    go_step
    exact HK.out
  · intro a' w' hag hC hd K hK
    have e3 : a'.tmps.getD 3 undef = .pointer (some ⟨w0.heap.size + 1, 0, none⟩) := hag 3 rfl
    go_step
    exact hK _ _ hC ((Below.refl _ _)) rfl
  · intro a' w' hag hC hd K hK
    have e7 : a'.tmps.getD 7 undef = .pointer (some ⟨w0.heap.size + 1, 2, none⟩) := hd.1
    have hc0 := (hC.1.get 0 rfl).cell 2 (.bool c2) rfl
    have hc1 := (hC.1.get 0 rfl).cell 3 (.string t2) rfl
    have HK := Lib.hid (hK (.agg #[.bool c2, .string t2]) _ hC (Below.refl _ _) rfl)
    clear hK hC
    go_step
    exact HK.out
  · intro a' w' hag hC hd K hK
    have e6 : a'.tmps.getD 6 undef = .agg #[.bool b, .string s] := hd.1
    have e8 : a'.tmps.getD 8 undef = .agg #[.bool c2, .string t2] := hd.2.1
    go_step
    refine (rtimes_w (frac_num Hx0.out) (frac_den Hy0.out) (Nat.le_trans (Bx0.out).1 (by decide)) (Nat.le_trans (By0.out).2 (by decide))).mono ?_
    rintro e w2 ⟨rfl, hb⟩
    rw [← H9.out]
    exact hK _ _ ⟨hC.1.on hb, Nat.le_trans hC.2 hb.size⟩ hb rfl
  · intro a' w' hag hC hd K hK
    have e3 : a'.tmps.getD 3 undef = .pointer (some ⟨w0.heap.size + 1, 0, none⟩) := hag 3 rfl
    go_step
    exact hK _ _ hC ((Below.refl _ _)) rfl
  · intro a' w' hag hC hd K hK
    have e10 : a'.tmps.getD 10 undef = .pointer (some ⟨w0.heap.size + 1, 0, none⟩) := hd.1
    have hc0 := (hC.1.get 0 rfl).cell 0 (.bool b2) rfl
    have hc1 := (hC.1.get 0 rfl).cell 1 (.string s2) rfl
    have HK := Lib.hid (hK (.agg #[.bool b2, .string s2]) _ hC (Below.refl _ _) rfl)
    clear hK hC
    go_step
    exact HK.out
  · intro a' w' hag hC hd K hK
    have e2 : a'.tmps.getD 2 undef = .pointer (some ⟨w0.heap.size, 0, none⟩) := hag 2 rfl
    go_step
    exact hK _ _ hC ((Below.refl _ _)) rfl
  · intro a' w' hag hC hd K hK
    have e12 : a'.tmps.getD 12 undef = .pointer (some ⟨w0.heap.size, 2, none⟩) := hd.1
    have hc0 := (hC.1.get 1 rfl).cell 2 (.bool c) rfl
    have hc1 := (hC.1.get 1 rfl).cell 3 (.string t) rfl
    have HK := Lib.hid (hK (.agg #[.bool c, .string t]) _ hC (Below.refl _ _) rfl)
    clear hK hC
    go_step
    exact HK.out
  · intro a' w' hag hC hd K hK
    have e11 : a'.tmps.getD 11 undef = .agg #[.bool b2, .string s2] := hd.1
    have e13 : a'.tmps.getD 13 undef = .agg #[.bool c, .string t] := hd.2.1
    go_step
    refine (rtimes_w (frac_num Hy0.out) (frac_den Hx0.out) (Nat.le_trans (By0.out).1 (by decide)) (Nat.le_trans (Bx0.out).2 (by decide))).mono ?_
    rintro e w2 ⟨rfl, hb⟩
    rw [← H14.out]
    exact hK _ _ ⟨hC.1.on hb, Nat.le_trans hC.2 hb.size⟩ hb rfl
  · intro a' w' hag hC hd K hK
    have e9 : a'.tmps.getD 9 undef = .agg #[.bool p9, .string s9] := hd.1
    have e14 : a'.tmps.getD 14 undef = .agg #[.bool p14, .string s14] := hd.2.1
    go_step
    refine (rcmp_w H9.out H14.out (Nat.le_trans B9.out (by decide)) (Nat.le_trans B14.out (by decide))).mono ?_
    rintro e w2 ⟨rfl, hb⟩
    rw [cmpQ_of, ← H15.out]
    exact hK _ _ ⟨hC.1.on hb, Nat.le_trans hC.2 hb.size⟩ hb rfl
  · intro u w' hC hall
    obtain ⟨u0, u1, u2, u3, u4, u5, u6, u7, u8, u9, u10, _⟩ := hall
    have u0 : u 0 = .pointer (some ⟨w0.heap.size, 0, none⟩) := u0
    have u1 : u 1 = .agg #[.bool b, .string s] := u1
    have u2 : u 2 = .pointer (some ⟨w0.heap.size + 1, 2, none⟩) := u2
    have u3 : u 3 = .agg #[.bool c2, .string t2] := u3
    have u4 : u 4 = .agg #[.bool p9, .string s9] := u4
    have u5 : u 5 = .pointer (some ⟨w0.heap.size + 1, 0, none⟩) := u5
    have u6 : u 6 = .agg #[.bool b2, .string s2] := u6
    have u7 : u 7 = .pointer (some ⟨w0.heap.size, 2, none⟩) := u7
    have u8 : u 8 = .agg #[.bool c, .string t] := u8
    have u9 : u 9 = .agg #[.bool p14, .string s14] := u9
    have u10 : u 10 = .int .i64 a15 := u10
    simp only [fillR, List.take_succ_cons, List.take_zero, Act.put, List.setIfInBounds_toArray, List.set_cons_succ, List.set_cons_zero, Nat.zero_add, Nat.reduceAdd, u0, u1, u2, u3, u4, u5, u6, u7, u8, u9, u10]
    clear u0 u1 u2 u3 u4 u5 u6 u7 u8 u9 u10
    have HF_1 := Lib.hid (hC.1)
    clear hC
    go_wp2
    go_ret
    exact ⟨by first | (rw [H15.out]; rfl) | rw [H15.out], (HF_1.out).below⟩
set_option maxHeartbeats 1600000 in
set_option maxRecDepth 100000 in
theorem r3formed_any {w0 : World} (b c : Bool) (s t : ByteArray) (h1 : s.size ≤ 100000) (h2 : t.size ≤ 100000) (r : Bool) (hr : r = true ↔ FracFormed b c s t) :
    Calls Tryz.prog 47 #[.agg #[.bool b, .string s, .bool c, .string t]] w0 fun e w' => e = .returned (.bool r) ∧ Below w0.heap.size w0 w' := by
  have HF0 := Lib.hid (Fr.nil w0)
  have H10 := Lib.hid h1
  have H20 := Lib.hid h2
  clear h1 h2
  by_cases f1 : FormedB b s
  rotate_left
  · obtain rfl := eq_false_of hr (fun h => f1 h.1)
    have F1 := Lib.hid f1
    clear f1 hr
    go_enter Tryz.func47, Tryz.ntmps47
    have hc_0_0 := (((HF0.out).push (w0.heap.size) #[.bool b, .string s, .bool c, .string t] 25 (by simp)).get 0 rfl).cell 0 (.bool b) rfl
    have hc_0_1 := (((HF0.out).push (w0.heap.size) #[.bool b, .string s, .bool c, .string t] 25 (by simp)).get 0 rfl).cell 1 (.string s) rfl
    have hc_0_2 := (((HF0.out).push (w0.heap.size) #[.bool b, .string s, .bool c, .string t] 25 (by simp)).get 0 rfl).cell 2 (.bool c) rfl
    have hc_0_3 := (((HF0.out).push (w0.heap.size) #[.bool b, .string s, .bool c, .string t] 25 (by simp)).get 0 rfl).cell 3 (.string t) rfl
    go_wp2_with fail
    refine (rformed_any b s false (iff_false_of F1.out)).mono ?_
    rintro e w11 ⟨rfl, hbw11⟩
    have HF11 := Lib.hid (((HF0.out).push (w0.heap.size) #[.bool b, .string s, .bool c, .string t] 25 (by simp)).on hbw11)
    clear hbw11 hc_0_0 hc_0_1 hc_0_2 hc_0_3
    go_wp2
    go_ret
    exact ⟨rfl, (HF11.out).below⟩
  have F1 := Lib.hid f1
  clear f1
  by_cases f2 : FormedB c t
  rotate_left
  · obtain rfl := eq_false_of hr (fun h => f2 h.2.1)
    have F2 := Lib.hid f2
    clear f2 hr
    go_enter Tryz.func47, Tryz.ntmps47
    have hc_0_0 := (((HF0.out).push (w0.heap.size) #[.bool b, .string s, .bool c, .string t] 25 (by simp)).get 0 rfl).cell 0 (.bool b) rfl
    have hc_0_1 := (((HF0.out).push (w0.heap.size) #[.bool b, .string s, .bool c, .string t] 25 (by simp)).get 0 rfl).cell 1 (.string s) rfl
    have hc_0_2 := (((HF0.out).push (w0.heap.size) #[.bool b, .string s, .bool c, .string t] 25 (by simp)).get 0 rfl).cell 2 (.bool c) rfl
    have hc_0_3 := (((HF0.out).push (w0.heap.size) #[.bool b, .string s, .bool c, .string t] 25 (by simp)).get 0 rfl).cell 3 (.string t) rfl
    go_wp2_with fail
    refine (rformed_any b s true (iff_true_of F1.out)).mono ?_
    rintro e w11 ⟨rfl, hbw11⟩
    have HF11 := Lib.hid (((HF0.out).push (w0.heap.size) #[.bool b, .string s, .bool c, .string t] 25 (by simp)).on hbw11)
    clear hbw11 hc_0_0 hc_0_1 hc_0_2 hc_0_3
    have hc_1_0 := ((HF11.out).get 0 rfl).cell 0 (.bool b) rfl
    have hc_1_1 := ((HF11.out).get 0 rfl).cell 1 (.string s) rfl
    have hc_1_2 := ((HF11.out).get 0 rfl).cell 2 (.bool c) rfl
    have hc_1_3 := ((HF11.out).get 0 rfl).cell 3 (.string t) rfl
    go_wp2_with fail
    refine (rformed_any c t false (iff_false_of F2.out)).mono ?_
    rintro e w12 ⟨rfl, hbw12⟩
    have HF12 := Lib.hid ((HF11.out).on hbw12)
    clear hbw12 hc_1_0 hc_1_1 hc_1_2 hc_1_3
    go_wp2
    go_ret
    exact ⟨rfl, (HF12.out).below⟩
  have F2 := Lib.hid f2
  clear f2
  have V1 := Lib.hid (formed_whole F1.out)
  have V2 := Lib.hid (formed_whole F2.out)
  have Z1 := Lib.hid (sz_num F1.out H10.out)
  have Z2 := Lib.hid (sz_num F2.out H20.out)
  by_cases f3 : 0 < numOf c t
  rotate_left
  · obtain rfl := eq_false_of hr (fun h => f3 h.2.2.1)
    by_cases f4 : numOf c t = 0
    · have SG : Hid ((numOf c t).sign = 0) := by rw [f4]; rfl
      clear f3 f4 hr
      go_enter Tryz.func47, Tryz.ntmps47
      have hc_0_0 := (((HF0.out).push (w0.heap.size) #[.bool b, .string s, .bool c, .string t] 25 (by simp)).get 0 rfl).cell 0 (.bool b) rfl
      have hc_0_1 := (((HF0.out).push (w0.heap.size) #[.bool b, .string s, .bool c, .string t] 25 (by simp)).get 0 rfl).cell 1 (.string s) rfl
      have hc_0_2 := (((HF0.out).push (w0.heap.size) #[.bool b, .string s, .bool c, .string t] 25 (by simp)).get 0 rfl).cell 2 (.bool c) rfl
      have hc_0_3 := (((HF0.out).push (w0.heap.size) #[.bool b, .string s, .bool c, .string t] 25 (by simp)).get 0 rfl).cell 3 (.string t) rfl
      go_wp2_with fail
      refine (rformed_any b s true (iff_true_of F1.out)).mono ?_
      rintro e w11 ⟨rfl, hbw11⟩
      have HF11 := Lib.hid (((HF0.out).push (w0.heap.size) #[.bool b, .string s, .bool c, .string t] 25 (by simp)).on hbw11)
      clear hbw11 hc_0_0 hc_0_1 hc_0_2 hc_0_3
      have hc_1_0 := ((HF11.out).get 0 rfl).cell 0 (.bool b) rfl
      have hc_1_1 := ((HF11.out).get 0 rfl).cell 1 (.string s) rfl
      have hc_1_2 := ((HF11.out).get 0 rfl).cell 2 (.bool c) rfl
      have hc_1_3 := ((HF11.out).get 0 rfl).cell 3 (.string t) rfl
      go_wp2_with fail
      refine (rformed_any c t true (iff_true_of F2.out)).mono ?_
      rintro e w12 ⟨rfl, hbw12⟩
      have HF12 := Lib.hid ((HF11.out).on hbw12)
      clear hbw12 hc_1_0 hc_1_1 hc_1_2 hc_1_3
      have hc_2_0 := ((HF12.out).get 0 rfl).cell 0 (.bool b) rfl
      have hc_2_1 := ((HF12.out).get 0 rfl).cell 1 (.string s) rfl
      have hc_2_2 := ((HF12.out).get 0 rfl).cell 2 (.bool c) rfl
      have hc_2_3 := ((HF12.out).get 0 rfl).cell 3 (.string t) rfl
      go_wp2_with fail
      refine (rsign_w V2.out).mono ?_
      rintro e w13 ⟨rfl, hbw13⟩
      rw [SG.out]
      have HF13 := Lib.hid ((HF12.out).on hbw13)
      clear hbw13 hc_2_0 hc_2_1 hc_2_2 hc_2_3
      go_wp2
      go_ret
      exact ⟨rfl, (HF13.out).below⟩
    · have SG : Hid ((numOf c t).sign = (-1)) := Int.sign_eq_neg_one_of_neg (by omega)
      clear f3 f4 hr
      go_enter Tryz.func47, Tryz.ntmps47
      have hc_0_0 := (((HF0.out).push (w0.heap.size) #[.bool b, .string s, .bool c, .string t] 25 (by simp)).get 0 rfl).cell 0 (.bool b) rfl
      have hc_0_1 := (((HF0.out).push (w0.heap.size) #[.bool b, .string s, .bool c, .string t] 25 (by simp)).get 0 rfl).cell 1 (.string s) rfl
      have hc_0_2 := (((HF0.out).push (w0.heap.size) #[.bool b, .string s, .bool c, .string t] 25 (by simp)).get 0 rfl).cell 2 (.bool c) rfl
      have hc_0_3 := (((HF0.out).push (w0.heap.size) #[.bool b, .string s, .bool c, .string t] 25 (by simp)).get 0 rfl).cell 3 (.string t) rfl
      go_wp2_with fail
      refine (rformed_any b s true (iff_true_of F1.out)).mono ?_
      rintro e w11 ⟨rfl, hbw11⟩
      have HF11 := Lib.hid (((HF0.out).push (w0.heap.size) #[.bool b, .string s, .bool c, .string t] 25 (by simp)).on hbw11)
      clear hbw11 hc_0_0 hc_0_1 hc_0_2 hc_0_3
      have hc_1_0 := ((HF11.out).get 0 rfl).cell 0 (.bool b) rfl
      have hc_1_1 := ((HF11.out).get 0 rfl).cell 1 (.string s) rfl
      have hc_1_2 := ((HF11.out).get 0 rfl).cell 2 (.bool c) rfl
      have hc_1_3 := ((HF11.out).get 0 rfl).cell 3 (.string t) rfl
      go_wp2_with fail
      refine (rformed_any c t true (iff_true_of F2.out)).mono ?_
      rintro e w12 ⟨rfl, hbw12⟩
      have HF12 := Lib.hid ((HF11.out).on hbw12)
      clear hbw12 hc_1_0 hc_1_1 hc_1_2 hc_1_3
      have hc_2_0 := ((HF12.out).get 0 rfl).cell 0 (.bool b) rfl
      have hc_2_1 := ((HF12.out).get 0 rfl).cell 1 (.string s) rfl
      have hc_2_2 := ((HF12.out).get 0 rfl).cell 2 (.bool c) rfl
      have hc_2_3 := ((HF12.out).get 0 rfl).cell 3 (.string t) rfl
      go_wp2_with fail
      refine (rsign_w V2.out).mono ?_
      rintro e w13 ⟨rfl, hbw13⟩
      rw [SG.out]
      have HF13 := Lib.hid ((HF12.out).on hbw13)
      clear hbw13 hc_2_0 hc_2_1 hc_2_2 hc_2_3
      go_wp2
      go_ret
      exact ⟨rfl, (HF13.out).below⟩
  have SG : Hid ((numOf c t).sign = 1) := Int.sign_eq_one_of_pos f3
  by_cases f4 : Nat.gcd (numOf b s).natAbs (numOf c t).natAbs = 1
  · obtain rfl := eq_true_of hr ⟨F1.out, F2.out, f3, f4⟩
    obtain ⟨u, hu⟩ : ∃ u, u = mag 1 := ⟨_, rfl⟩
    have U1 : Hid ((Value.agg #[.bool false, .string u]) = wholeV 1) := by rw [hu]; rfl
    have G1 : Hid (((Nat.gcd (numOf b s).natAbs (numOf c t).natAbs : Nat) : Int) = 1) := by rw [f4]; rfl
    clear f3 f4 hr hu
    go_enter Tryz.func47, Tryz.ntmps47
    have hc_0_0 := (((HF0.out).push (w0.heap.size) #[.bool b, .string s, .bool c, .string t] 25 (by simp)).get 0 rfl).cell 0 (.bool b) rfl
    have hc_0_1 := (((HF0.out).push (w0.heap.size) #[.bool b, .string s, .bool c, .string t] 25 (by simp)).get 0 rfl).cell 1 (.string s) rfl
    have hc_0_2 := (((HF0.out).push (w0.heap.size) #[.bool b, .string s, .bool c, .string t] 25 (by simp)).get 0 rfl).cell 2 (.bool c) rfl
    have hc_0_3 := (((HF0.out).push (w0.heap.size) #[.bool b, .string s, .bool c, .string t] 25 (by simp)).get 0 rfl).cell 3 (.string t) rfl
    go_wp2_with fail
    refine (rformed_any b s true (iff_true_of F1.out)).mono ?_
    rintro e w11 ⟨rfl, hbw11⟩
    have HF11 := Lib.hid (((HF0.out).push (w0.heap.size) #[.bool b, .string s, .bool c, .string t] 25 (by simp)).on hbw11)
    clear hbw11 hc_0_0 hc_0_1 hc_0_2 hc_0_3
    have hc_1_0 := ((HF11.out).get 0 rfl).cell 0 (.bool b) rfl
    have hc_1_1 := ((HF11.out).get 0 rfl).cell 1 (.string s) rfl
    have hc_1_2 := ((HF11.out).get 0 rfl).cell 2 (.bool c) rfl
    have hc_1_3 := ((HF11.out).get 0 rfl).cell 3 (.string t) rfl
    go_wp2_with fail
    refine (rformed_any c t true (iff_true_of F2.out)).mono ?_
    rintro e w12 ⟨rfl, hbw12⟩
    have HF12 := Lib.hid ((HF11.out).on hbw12)
    clear hbw12 hc_1_0 hc_1_1 hc_1_2 hc_1_3
    have hc_2_0 := ((HF12.out).get 0 rfl).cell 0 (.bool b) rfl
    have hc_2_1 := ((HF12.out).get 0 rfl).cell 1 (.string s) rfl
    have hc_2_2 := ((HF12.out).get 0 rfl).cell 2 (.bool c) rfl
    have hc_2_3 := ((HF12.out).get 0 rfl).cell 3 (.string t) rfl
    go_wp2_with fail
    refine (rsign_w V2.out).mono ?_
    rintro e w13 ⟨rfl, hbw13⟩
    rw [SG.out]
    have HF13 := Lib.hid ((HF12.out).on hbw13)
    clear hbw13 hc_2_0 hc_2_1 hc_2_2 hc_2_3
    have hc_3_0 := ((HF13.out).get 0 rfl).cell 0 (.bool b) rfl
    have hc_3_1 := ((HF13.out).get 0 rfl).cell 1 (.string s) rfl
    have hc_3_2 := ((HF13.out).get 0 rfl).cell 2 (.bool c) rfl
    have hc_3_3 := ((HF13.out).get 0 rfl).cell 3 (.string t) rfl
    go_wp2_with fail
    refine (rgcd_w V1.out V2.out Z1.out Z2.out).mono ?_
    rintro e w14 ⟨rfl, hbw14⟩
    rw [G1.out, ← U1.out]
    have HF14 := Lib.hid ((HF13.out).on hbw14)
    clear hbw14 hc_3_0 hc_3_1 hc_3_2 hc_3_3
    go_wp2_with fail
    refine (rof_any (n := 1) (by decide)).mono ?_
    rintro e w15 ⟨rfl, hbw15⟩
    rw [← U1.out]
    have HF15 := Lib.hid ((HF14.out).on hbw15)
    clear hbw15
    go_wp2
    go_ret
    exact ⟨rfl, (HF15.out).below⟩
  · obtain rfl := eq_false_of hr (fun h => f4 h.2.2.2)
    obtain ⟨u, hu⟩ : ∃ u, u = mag 1 := ⟨_, rfl⟩
    obtain ⟨g, hg⟩ : ∃ g, g = mag (Nat.gcd (numOf b s).natAbs (numOf c t).natAbs) := ⟨_, rfl⟩
    have U1 : Hid ((Value.agg #[.bool false, .string u]) = wholeV 1) := by rw [hu]; rfl
    have G1 : Hid ((Value.agg #[.bool false, .string g]) = wholeV ((Nat.gcd (numOf b s).natAbs (numOf c t).natAbs : Nat) : Int)) := by rw [hg]; unfold wholeV; rw [Int.natAbs_natCast, show decide (((Nat.gcd (numOf b s).natAbs (numOf c t).natAbs : Nat) : Int) < 0) = false from decide_eq_false (by omega)]; exact rfl
    have hgu : ¬ g.toList = u.toList := fun e => f4 (by have := toList_inj.1 e; rw [hg, hu] at this; exact mag_inj this)
    clear f3 f4 hr hu hg
    go_enter Tryz.func47, Tryz.ntmps47
    have hc_0_0 := (((HF0.out).push (w0.heap.size) #[.bool b, .string s, .bool c, .string t] 25 (by simp)).get 0 rfl).cell 0 (.bool b) rfl
    have hc_0_1 := (((HF0.out).push (w0.heap.size) #[.bool b, .string s, .bool c, .string t] 25 (by simp)).get 0 rfl).cell 1 (.string s) rfl
    have hc_0_2 := (((HF0.out).push (w0.heap.size) #[.bool b, .string s, .bool c, .string t] 25 (by simp)).get 0 rfl).cell 2 (.bool c) rfl
    have hc_0_3 := (((HF0.out).push (w0.heap.size) #[.bool b, .string s, .bool c, .string t] 25 (by simp)).get 0 rfl).cell 3 (.string t) rfl
    go_wp2_with fail
    refine (rformed_any b s true (iff_true_of F1.out)).mono ?_
    rintro e w11 ⟨rfl, hbw11⟩
    have HF11 := Lib.hid (((HF0.out).push (w0.heap.size) #[.bool b, .string s, .bool c, .string t] 25 (by simp)).on hbw11)
    clear hbw11 hc_0_0 hc_0_1 hc_0_2 hc_0_3
    have hc_1_0 := ((HF11.out).get 0 rfl).cell 0 (.bool b) rfl
    have hc_1_1 := ((HF11.out).get 0 rfl).cell 1 (.string s) rfl
    have hc_1_2 := ((HF11.out).get 0 rfl).cell 2 (.bool c) rfl
    have hc_1_3 := ((HF11.out).get 0 rfl).cell 3 (.string t) rfl
    go_wp2_with fail
    refine (rformed_any c t true (iff_true_of F2.out)).mono ?_
    rintro e w12 ⟨rfl, hbw12⟩
    have HF12 := Lib.hid ((HF11.out).on hbw12)
    clear hbw12 hc_1_0 hc_1_1 hc_1_2 hc_1_3
    have hc_2_0 := ((HF12.out).get 0 rfl).cell 0 (.bool b) rfl
    have hc_2_1 := ((HF12.out).get 0 rfl).cell 1 (.string s) rfl
    have hc_2_2 := ((HF12.out).get 0 rfl).cell 2 (.bool c) rfl
    have hc_2_3 := ((HF12.out).get 0 rfl).cell 3 (.string t) rfl
    go_wp2_with fail
    refine (rsign_w V2.out).mono ?_
    rintro e w13 ⟨rfl, hbw13⟩
    rw [SG.out]
    have HF13 := Lib.hid ((HF12.out).on hbw13)
    clear hbw13 hc_2_0 hc_2_1 hc_2_2 hc_2_3
    have hc_3_0 := ((HF13.out).get 0 rfl).cell 0 (.bool b) rfl
    have hc_3_1 := ((HF13.out).get 0 rfl).cell 1 (.string s) rfl
    have hc_3_2 := ((HF13.out).get 0 rfl).cell 2 (.bool c) rfl
    have hc_3_3 := ((HF13.out).get 0 rfl).cell 3 (.string t) rfl
    go_wp2_with fail
    refine (rgcd_w V1.out V2.out Z1.out Z2.out).mono ?_
    rintro e w14 ⟨rfl, hbw14⟩
    rw [← G1.out]
    have HF14 := Lib.hid ((HF13.out).on hbw14)
    clear hbw14 hc_3_0 hc_3_1 hc_3_2 hc_3_3
    go_wp2_with fail
    refine (rof_any (n := 1) (by decide)).mono ?_
    rintro e w15 ⟨rfl, hbw15⟩
    rw [← U1.out]
    have HF15 := Lib.hid ((HF14.out).on hbw15)
    clear hbw15
    go_wp2
    go_ret
    exact ⟨rfl, (HF15.out).below⟩
set_option maxHeartbeats 1600000 in
set_option maxRecDepth 100000 in
theorem r3may_any {w0 : World} (b c : Bool) (s t : ByteArray) (r : Bool) (hr : r = true ↔ IsFrac (.agg #[.bool b, .string s, .bool c, .string t])) :
    Calls Tryz.prog 9 #[.agg #[.bool b, .string s, .bool c, .string t]] w0 fun e w' => e = .returned (.bool r) ∧ Below w0.heap.size w0 w' := by
  have HF0 := Lib.hid (Fr.nil w0)
  rw [isFrac_doc] at hr
  by_cases f1 : s.size ≤ 1024 ∧ t.size ≤ 1024
  rotate_left
  · obtain rfl := eq_false_of hr (fun h => f1 h.1)
    have F1 := Lib.hid f1
    clear f1 hr
    go_enter Tryz.func9, Tryz.ntmps9
    have hc_0_0 := (((HF0.out).push (w0.heap.size) #[.bool b, .string s, .bool c, .string t] 25 (by simp)).get 0 rfl).cell 0 (.bool b) rfl
    have hc_0_1 := (((HF0.out).push (w0.heap.size) #[.bool b, .string s, .bool c, .string t] 25 (by simp)).get 0 rfl).cell 1 (.string s) rfl
    have hc_0_2 := (((HF0.out).push (w0.heap.size) #[.bool b, .string s, .bool c, .string t] 25 (by simp)).get 0 rfl).cell 2 (.bool c) rfl
    have hc_0_3 := (((HF0.out).push (w0.heap.size) #[.bool b, .string s, .bool c, .string t] 25 (by simp)).get 0 rfl).cell 3 (.string t) rfl
    go_wp2_with fail
    refine (r3fits_w b c s t false (iff_false_of F1.out)).mono ?_
    rintro e w11 ⟨rfl, hbw11⟩
    have HF11 := Lib.hid (((HF0.out).push (w0.heap.size) #[.bool b, .string s, .bool c, .string t] 25 (by simp)).on hbw11)
    clear hbw11 hc_0_0 hc_0_1 hc_0_2 hc_0_3
    go_wp2
    go_ret
    exact ⟨rfl, (HF11.out).below⟩
  have F1 := Lib.hid f1
  clear f1
  have hr2 : r = true ↔ FracFormed b c s t := hr.trans ⟨fun h => h.2, fun h => ⟨F1.out, h⟩⟩
  have R2 := Lib.hid hr2
  clear hr hr2
  cases r
  · have R3 : Hid (¬ FracFormed b c s t) := fun h => Bool.noConfusion (R2.out.2 h)
    clear R2
    go_enter Tryz.func9, Tryz.ntmps9
    have hc_0_0 := (((HF0.out).push (w0.heap.size) #[.bool b, .string s, .bool c, .string t] 25 (by simp)).get 0 rfl).cell 0 (.bool b) rfl
    have hc_0_1 := (((HF0.out).push (w0.heap.size) #[.bool b, .string s, .bool c, .string t] 25 (by simp)).get 0 rfl).cell 1 (.string s) rfl
    have hc_0_2 := (((HF0.out).push (w0.heap.size) #[.bool b, .string s, .bool c, .string t] 25 (by simp)).get 0 rfl).cell 2 (.bool c) rfl
    have hc_0_3 := (((HF0.out).push (w0.heap.size) #[.bool b, .string s, .bool c, .string t] 25 (by simp)).get 0 rfl).cell 3 (.string t) rfl
    go_wp2_with fail
    refine (r3fits_w b c s t true (iff_true_of F1.out)).mono ?_
    rintro e w11 ⟨rfl, hbw11⟩
    have HF11 := Lib.hid (((HF0.out).push (w0.heap.size) #[.bool b, .string s, .bool c, .string t] 25 (by simp)).on hbw11)
    clear hbw11 hc_0_0 hc_0_1 hc_0_2 hc_0_3
    have hc_1_0 := ((HF11.out).get 0 rfl).cell 0 (.bool b) rfl
    have hc_1_1 := ((HF11.out).get 0 rfl).cell 1 (.string s) rfl
    have hc_1_2 := ((HF11.out).get 0 rfl).cell 2 (.bool c) rfl
    have hc_1_3 := ((HF11.out).get 0 rfl).cell 3 (.string t) rfl
    go_wp2_with fail
    refine (r3formed_any b c s t (Nat.le_trans F1.out.1 (by decide)) (Nat.le_trans F1.out.2 (by decide)) false (iff_false_of R3.out)).mono ?_
    rintro e w12 ⟨rfl, hbw12⟩
    have HF12 := Lib.hid ((HF11.out).on hbw12)
    clear hbw12 hc_1_0 hc_1_1 hc_1_2 hc_1_3
    go_wp2
    go_ret
    exact ⟨rfl, (HF12.out).below⟩
  · have R3 : Hid (FracFormed b c s t) := R2.out.1 rfl
    clear R2
    go_enter Tryz.func9, Tryz.ntmps9
    have hc_0_0 := (((HF0.out).push (w0.heap.size) #[.bool b, .string s, .bool c, .string t] 25 (by simp)).get 0 rfl).cell 0 (.bool b) rfl
    have hc_0_1 := (((HF0.out).push (w0.heap.size) #[.bool b, .string s, .bool c, .string t] 25 (by simp)).get 0 rfl).cell 1 (.string s) rfl
    have hc_0_2 := (((HF0.out).push (w0.heap.size) #[.bool b, .string s, .bool c, .string t] 25 (by simp)).get 0 rfl).cell 2 (.bool c) rfl
    have hc_0_3 := (((HF0.out).push (w0.heap.size) #[.bool b, .string s, .bool c, .string t] 25 (by simp)).get 0 rfl).cell 3 (.string t) rfl
    go_wp2_with fail
    refine (r3fits_w b c s t true (iff_true_of F1.out)).mono ?_
    rintro e w11 ⟨rfl, hbw11⟩
    have HF11 := Lib.hid (((HF0.out).push (w0.heap.size) #[.bool b, .string s, .bool c, .string t] 25 (by simp)).on hbw11)
    clear hbw11 hc_0_0 hc_0_1 hc_0_2 hc_0_3
    have hc_1_0 := ((HF11.out).get 0 rfl).cell 0 (.bool b) rfl
    have hc_1_1 := ((HF11.out).get 0 rfl).cell 1 (.string s) rfl
    have hc_1_2 := ((HF11.out).get 0 rfl).cell 2 (.bool c) rfl
    have hc_1_3 := ((HF11.out).get 0 rfl).cell 3 (.string t) rfl
    go_wp2_with fail
    refine (r3formed_any b c s t (Nat.le_trans F1.out.1 (by decide)) (Nat.le_trans F1.out.2 (by decide)) true (iff_true_of R3.out)).mono ?_
    rintro e w12 ⟨rfl, hbw12⟩
    have HF12 := Lib.hid ((HF11.out).on hbw12)
    clear hbw12 hc_1_0 hc_1_1 hc_1_2 hc_1_3
    go_wp2
    go_ret
    exact ⟨rfl, (HF12.out).below⟩
set_option maxHeartbeats 1600000 in
set_option maxRecDepth 100000 in
theorem r3sign_any {w0 : World} {b c : Bool} {s t : ByteArray} {x : Rat} (hx : (Value.agg #[.bool b, .string s, .bool c, .string t]) = fracV x) (bdx : Sz 20000 x) :
    Calls Tryz.prog 21 #[.agg #[.bool b, .string s, .bool c, .string t]] w0 fun e w' => e = .returned (.int .i64 (x.num.sign)) ∧ Below w0.heap.size w0 w' := by
  have Hx0 := Lib.hid hx
  have Bx0 := Lib.hid bdx
  clear hx bdx
  have HF0 := Lib.hid (Fr.nil w0)
  go_enter Tryz.func21, Tryz.ntmps21
  have hc_0_0 := (((HF0.out).push (w0.heap.size) #[.bool b, .string s, .bool c, .string t] 25 (by simp)).get 0 rfl).cell 0 (.bool b) rfl
  have hc_0_1 := (((HF0.out).push (w0.heap.size) #[.bool b, .string s, .bool c, .string t] 25 (by simp)).get 0 rfl).cell 1 (.string s) rfl
  have hc_0_2 := (((HF0.out).push (w0.heap.size) #[.bool b, .string s, .bool c, .string t] 25 (by simp)).get 0 rfl).cell 2 (.bool c) rfl
  have hc_0_3 := (((HF0.out).push (w0.heap.size) #[.bool b, .string s, .bool c, .string t] 25 (by simp)).get 0 rfl).cell 3 (.string t) rfl
  obtain ⟨a5, h5⟩ : ∃ a : Int, a = Int.sign ((x).num) := ⟨_, rfl⟩
  have H5 := Lib.hid h5
  clear h5
  go_wp2_with fail
  refine (rsign_w (frac_num Hx0.out)).mono ?_
  rintro e w11 ⟨rfl, hbw11⟩
  rw [← H5.out]
  have HF11 := Lib.hid (((HF0.out).push (w0.heap.size) #[.bool b, .string s, .bool c, .string t] 25 (by simp)).on hbw11)
  clear hbw11 hc_0_0 hc_0_1 hc_0_2 hc_0_3
  go_wp2
  go_ret
  exact ⟨by first | (rw [H5.out]; rfl) | rw [H5.out], (HF11.out).below⟩
set_option maxHeartbeats 1600000 in
set_option maxRecDepth 100000 in
theorem r3neg_any {w0 : World} {b c : Bool} {s t : ByteArray} {x : Rat} (hx : (Value.agg #[.bool b, .string s, .bool c, .string t]) = fracV x) (bdx : Sz 20000 x) :
    Calls Tryz.prog 40 #[.agg #[.bool b, .string s, .bool c, .string t]] w0 fun e w' => e = .returned (fracV (-x)) ∧ Below w0.heap.size w0 w' := by
  have Hx0 := Lib.hid hx
  have Bx0 := Lib.hid bdx
  clear hx bdx
  have HF0 := Lib.hid (Fr.nil w0)
  go_enter Tryz.func40, Tryz.ntmps40
  go_wp2
  refine wp_world (fun w => Fr w0 w [(w0.heap.size + 1, #[.bool false, .string ⟨#[]⟩, .bool false, .string ⟨#[]⟩], 25), (w0.heap.size, #[.bool b, .string s, .bool c, .string t], 25)]) (((HF0.out).push (w0.heap.size) #[.bool b, .string s, .bool c, .string t] 25 (by simp)).push (w0.heap.size + 1) #[.bool false, .string ⟨#[]⟩, .bool false, .string ⟨#[]⟩] 25 (by simp)) ?_
  intro w11 hHF11
  have HF11 := Lib.hid hHF11
  clear hHF11
  obtain ⟨p5, s5, h5⟩ := wholeV_cells (-((x).num))
  have H5 := Lib.hid h5
  have B5 : Hid (sz (-((x).num)) ≤ 20000) := by rw [sz_neg]; exact (Bx0.out).1
  clear h5
  refine wp_region_acts 5 (fun w' => Fr w0 w' [(w0.heap.size + 1, #[.bool false, .string ⟨#[]⟩, .bool false, .string ⟨#[]⟩], 25), (w0.heap.size, #[.bool b, .string s, .bool c, .string t], 25)] ∧ w11.heap.size ≤ w'.heap.size) (fun w w' => Below w.heap.size w w') (fun i w v => match i with
      | 0 => v = .pointer (some ⟨w0.heap.size, 0, none⟩)
      | 1 => v = .agg #[.bool b, .string s]
      | 2 => v = .agg #[.bool p5, .string s5]
      | 3 => v = .pointer (some ⟨w0.heap.size, 2, none⟩)
      | _ => v = .agg #[.bool c, .string t]) (by kernel_rfl) (by kernel_rfl) (by kernel_rfl) ⟨HF11.out.drew, Nat.le_refl _⟩ (fun _ _ => (Below.refl _ _)) ?_ ⟨?_, ?_, ?_, ?_, ?_, trivial⟩ ?_
  · intro i w1 w2 v hC hC2 hE hV
    match i with
    | 0 => exact hV
    | 1 => exact hV
    | 2 => exact hV
    | 3 => exact hV
    | _ + 4 => exact hV
  · intro a' w' hag hC hd K hK
    have e1 : a'.tmps.getD 1 undef = .pointer (some ⟨w0.heap.size, 0, none⟩) := hag 1 rfl
    go_step
    exact hK _ _ hC ((Below.refl _ _)) rfl
  · intro a' w' hag hC hd K hK
    have e3 : a'.tmps.getD 3 undef = .pointer (some ⟨w0.heap.size, 0, none⟩) := hd.1
    have hc0 := (hC.1.get 1 rfl).cell 0 (.bool b) rfl
    have hc1 := (hC.1.get 1 rfl).cell 1 (.string s) rfl
    have HK := Lib.hid (hK (.agg #[.bool b, .string s]) _ hC (Below.refl _ _) rfl)
    clear hK hC
    go_step
    exact HK.out
  · intro a' w' hag hC hd K hK
    have e4 : a'.tmps.getD 4 undef = .agg #[.bool b, .string s] := hd.1
    go_step
    refine (rneg_w (frac_num Hx0.out)).mono ?_
    rintro e w2 ⟨rfl, hb⟩
    rw [← H5.out]
    exact hK _ _ ⟨hC.1.on hb, Nat.le_trans hC.2 hb.size⟩ hb rfl
  · intro a' w' hag hC hd K hK
    have e1 : a'.tmps.getD 1 undef = .pointer (some ⟨w0.heap.size, 0, none⟩) := hag 1 rfl
    go_step
    exact hK _ _ hC ((Below.refl _ _)) rfl
  · intro a' w' hag hC hd K hK
    have e6 : a'.tmps.getD 6 undef = .pointer (some ⟨w0.heap.size, 2, none⟩) := hd.1
    have hc0 := (hC.1.get 1 rfl).cell 2 (.bool c) rfl
    have hc1 := (hC.1.get 1 rfl).cell 3 (.string t) rfl
    have HK := Lib.hid (hK (.agg #[.bool c, .string t]) _ hC (Below.refl _ _) rfl)
    clear hK hC
    go_step
    exact HK.out
  · intro u w' hC hall
    obtain ⟨u0, u1, u2, u3, u4, _⟩ := hall
    have u0 : u 0 = .pointer (some ⟨w0.heap.size, 0, none⟩) := u0
    have u1 : u 1 = .agg #[.bool b, .string s] := u1
    have u2 : u 2 = .agg #[.bool p5, .string s5] := u2
    have u3 : u 3 = .pointer (some ⟨w0.heap.size, 2, none⟩) := u3
    have u4 : u 4 = .agg #[.bool c, .string t] := u4
    simp only [fillR, List.take_succ_cons, List.take_zero, Act.put, List.setIfInBounds_toArray, List.set_cons_succ, List.set_cons_zero, Nat.zero_add, Nat.reduceAdd, u0, u1, u2, u3, u4]
    clear u0 u1 u2 u3 u4
    have HF_1 := Lib.hid (hC.1)
    clear hC
    have hc_1_0 := ((HF_1.out).get 0 rfl).cell 0 (.bool false) rfl
    have hc_1_1 := ((HF_1.out).get 0 rfl).cell 1 (.string ⟨#[]⟩) rfl
    have hc_1_2 := ((HF_1.out).get 0 rfl).cell 2 (.bool false) rfl
    have hc_1_3 := ((HF_1.out).get 0 rfl).cell 3 (.string ⟨#[]⟩) rfl
    have hf_1_4 := ((HF_1.out).get 0 rfl).frozen
    go_wp2
    have hk := ((((HF_1.out).put 0 rfl 0 (.bool p5)).put 0 rfl 1 (.string s5)).put 0 rfl 2 (.bool c)).put 0 rfl 3 (.string t)
    have k0_0 := (hk.get 0 rfl).cell 0 (.bool p5) rfl
    have k0_1 := (hk.get 0 rfl).cell 1 (.string s5) rfl
    have k0_2 := (hk.get 0 rfl).cell 2 (.bool c) rfl
    have k0_3 := (hk.get 0 rfl).cell 3 (.string t) rfl
    exact bodyPost_ret (v := .agg #[.bool p5, .string s5, .bool c, .string t]) (by simp [results, Tryz.results40, go_sem, k0_0, k0_1, k0_2, k0_3]) rfl ⟨by rw [frac_mk (x := -x) H5.out (show (Value.agg #[.bool c, .string t]) = wholeV ((-x).den : Int) from frac_den (x := x) Hx0.out)], hk.below⟩
set_option maxHeartbeats 1600000 in
set_option maxRecDepth 100000 in
theorem r3minus_any {w0 : World} {b c b2 c2 : Bool} {s t s2 t2 : ByteArray} {x y : Rat} (hx : (Value.agg #[.bool b, .string s, .bool c, .string t]) = fracV x) (hy : (Value.agg #[.bool b2, .string s2, .bool c2, .string t2]) = fracV y) (bdx : Sz 20000 x) (bdy : Sz 20000 y) :
    Calls Tryz.prog 18 #[.agg #[.bool b, .string s, .bool c, .string t], .agg #[.bool b2, .string s2, .bool c2, .string t2]] w0 fun e w' => e = .returned (fracV (x - y)) ∧ Below w0.heap.size w0 w' := by
  have Hx0 := Lib.hid hx
  have Bx0 := Lib.hid bdx
  clear hx bdx
  have Hy0 := Lib.hid hy
  have By0 := Lib.hid bdy
  clear hy bdy
  have HF0 := Lib.hid (Fr.nil w0)
  go_enter Tryz.func18, Tryz.ntmps18
  go_wp2
  refine wp_world (fun w => Fr w0 w [(w0.heap.size + 1 + 1, #[.bool false, .string ⟨#[]⟩, .bool false, .string ⟨#[]⟩], 25), (w0.heap.size + 1, #[.bool b2, .string s2, .bool c2, .string t2], 25), (w0.heap.size, #[.bool b, .string s, .bool c, .string t], 25)]) ((((HF0.out).push (w0.heap.size) #[.bool b, .string s, .bool c, .string t] 25 (by simp)).push (w0.heap.size + 1) #[.bool b2, .string s2, .bool c2, .string t2] 25 (by simp)).push (w0.heap.size + 1 + 1) #[.bool false, .string ⟨#[]⟩, .bool false, .string ⟨#[]⟩] 25 (by simp)) ?_
  intro w11 hHF11
  have HF11 := Lib.hid hHF11
  clear hHF11
  obtain ⟨p7, s7, q7, t7, h7⟩ := fracV_cells (-(y))
  have H7 := Lib.hid h7
  have B7 : Hid (Sz 20000 (-(y))) := Sz.neg By0.out
  clear h7
  obtain ⟨p8, s8, q8, t8, h8⟩ := fracV_cells ((x) + (-(y)))
  have H8 := Lib.hid h8
  have B8 : Hid (Sz 40001 ((x) + (-(y)))) := Sz.add Bx0.out B7.out
  clear h8
  refine wp_region_acts 4 (fun w' => Fr w0 w' [(w0.heap.size + 1 + 1, #[.bool false, .string ⟨#[]⟩, .bool false, .string ⟨#[]⟩], 25), (w0.heap.size + 1, #[.bool b2, .string s2, .bool c2, .string t2], 25), (w0.heap.size, #[.bool b, .string s, .bool c, .string t], 25)] ∧ w11.heap.size ≤ w'.heap.size) (fun w w' => Below w.heap.size w w') (fun i w v => match i with
      | 0 => v = .agg #[.bool b, .string s, .bool c, .string t]
      | 1 => v = .agg #[.bool b2, .string s2, .bool c2, .string t2]
      | 2 => v = .agg #[.bool p7, .string s7, .bool q7, .string t7]
      | _ => v = .agg #[.bool p8, .string s8, .bool q8, .string t8]) (by kernel_rfl) (by kernel_rfl) (by kernel_rfl) ⟨HF11.out.drew, Nat.le_refl _⟩ (fun _ _ => (Below.refl _ _)) ?_ ⟨?_, ?_, ?_, ?_, trivial⟩ ?_
  · intro i w1 w2 v hC hC2 hE hV
    match i with
    | 0 => exact hV
    | 1 => exact hV
    | 2 => exact hV
    | _ + 3 => exact hV
  · intro a' w' hag hC hd K hK
    have e2 : a'.tmps.getD 2 undef = .pointer (some ⟨w0.heap.size, 0, none⟩) := hag 2 rfl
    have hc0 := (hC.1.get 2 rfl).cell 0 (.bool b) rfl
    have hc1 := (hC.1.get 2 rfl).cell 1 (.string s) rfl
    have hc2 := (hC.1.get 2 rfl).cell 2 (.bool c) rfl
    have hc3 := (hC.1.get 2 rfl).cell 3 (.string t) rfl
    have HK := Lib.hid (hK (.agg #[.bool b, .string s, .bool c, .string t]) _ hC (Below.refl _ _) rfl)
    clear hK hC
    go_step
    exact HK.out
  · intro a' w' hag hC hd K hK
    have e3 : a'.tmps.getD 3 undef = .pointer (some ⟨w0.heap.size + 1, 0, none⟩) := hag 3 rfl
    have hc0 := (hC.1.get 1 rfl).cell 0 (.bool b2) rfl
    have hc1 := (hC.1.get 1 rfl).cell 1 (.string s2) rfl
    have hc2 := (hC.1.get 1 rfl).cell 2 (.bool c2) rfl
    have hc3 := (hC.1.get 1 rfl).cell 3 (.string t2) rfl
    have HK := Lib.hid (hK (.agg #[.bool b2, .string s2, .bool c2, .string t2]) _ hC (Below.refl _ _) rfl)
    clear hK hC
    go_step
    exact HK.out
  · intro a' w' hag hC hd K hK
    have e6 : a'.tmps.getD 6 undef = .agg #[.bool b2, .string s2, .bool c2, .string t2] := hd.1
    go_step
    refine (r3neg_any Hy0.out (By0.out.mono (by decide))).mono ?_
    rintro e w2 ⟨rfl, hb⟩
    rw [← H7.out]
    exact hK _ _ ⟨hC.1.on hb, Nat.le_trans hC.2 hb.size⟩ hb rfl
  · intro a' w' hag hC hd K hK
    have e5 : a'.tmps.getD 5 undef = .agg #[.bool b, .string s, .bool c, .string t] := hd.1
    have e7 : a'.tmps.getD 7 undef = .agg #[.bool p7, .string s7, .bool q7, .string t7] := hd.2.1
    go_step
    refine (r3plus_any Hx0.out H7.out (Bx0.out.mono (by decide)) (B7.out.mono (by decide))).mono ?_
    rintro e w2 ⟨rfl, hb⟩
    rw [← H8.out]
    exact hK _ _ ⟨hC.1.on hb, Nat.le_trans hC.2 hb.size⟩ hb rfl
  · intro u w' hC hall
    obtain ⟨u0, u1, u2, u3, _⟩ := hall
    have u0 : u 0 = .agg #[.bool b, .string s, .bool c, .string t] := u0
    have u1 : u 1 = .agg #[.bool b2, .string s2, .bool c2, .string t2] := u1
    have u2 : u 2 = .agg #[.bool p7, .string s7, .bool q7, .string t7] := u2
    have u3 : u 3 = .agg #[.bool p8, .string s8, .bool q8, .string t8] := u3
    simp only [fillR, List.take_succ_cons, List.take_zero, Act.put, List.setIfInBounds_toArray, List.set_cons_succ, List.set_cons_zero, Nat.zero_add, Nat.reduceAdd, u0, u1, u2, u3]
    clear u0 u1 u2 u3
    have HF_1 := Lib.hid (hC.1)
    clear hC
    have hc_1_0 := ((HF_1.out).get 0 rfl).cell 0 (.bool false) rfl
    have hc_1_1 := ((HF_1.out).get 0 rfl).cell 1 (.string ⟨#[]⟩) rfl
    have hc_1_2 := ((HF_1.out).get 0 rfl).cell 2 (.bool false) rfl
    have hc_1_3 := ((HF_1.out).get 0 rfl).cell 3 (.string ⟨#[]⟩) rfl
    have hf_1_4 := ((HF_1.out).get 0 rfl).frozen
    go_wp2
    have hk := ((((HF_1.out).put 0 rfl 0 (.bool p8)).put 0 rfl 1 (.string s8)).put 0 rfl 2 (.bool q8)).put 0 rfl 3 (.string t8)
    have k0_0 := (hk.get 0 rfl).cell 0 (.bool p8) rfl
    have k0_1 := (hk.get 0 rfl).cell 1 (.string s8) rfl
    have k0_2 := (hk.get 0 rfl).cell 2 (.bool q8) rfl
    have k0_3 := (hk.get 0 rfl).cell 3 (.string t8) rfl
    exact bodyPost_ret (v := .agg #[.bool p8, .string s8, .bool q8, .string t8]) (by simp [results, Tryz.results18, go_sem, k0_0, k0_1, k0_2, k0_3]) rfl ⟨by rw [H8.out, Rat.sub_eq_add_neg], hk.below⟩
end Go.Proofs.YtaenedjanckaiaaGreat
