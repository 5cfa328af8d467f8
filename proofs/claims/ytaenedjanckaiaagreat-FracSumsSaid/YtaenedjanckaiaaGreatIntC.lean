/- Package big: whole numbers: SetInt64, NewInt, QuoRem, Quo, DivMod, Div. -/
import Derived.Test.YtaenedjanckaiaaGreatIntB
namespace Go.Proofs.YtaenedjanckaiaaGreat
set_option linter.unnecessarySimpa false
set_option linter.unusedVariables false
set_option linter.unusedSimpArgs false
open Go.RowKit

theorem SetInt64_any {w : World} {b o : Nat} {n : Int} (hz : Slot w b o 2) (hr : -9223372036854775808 ≤ n ∧ n ≤ 9223372036854775807) :
    Calls Tryz.prog 114 #[.pointer (some ⟨b, o, none⟩), .int .i64 n] w fun e w' => e = .returned (.pointer (some ⟨b, o, none⟩)) ∧ IntAt w' b o n ∧ Touch w w' b o 2 := by
  have HZ := Lib.hid hz
  have HR := Lib.hid hr
  obtain ⟨k, hk⟩ : ∃ k, k = n.natAbs := ⟨_, rfl⟩
  have HKB : Hid (k ≤ 18446744073709551615) := by unfold Hid; omega
  have HS : Hid (sg (decide (n < 0)) k = n) := by unfold Hid; rw [hk, sg_of]
  by_cases h : n < 0
  · have hw1 : IntKind.u64.wrap n = 18446744073709551616 + n := by simp [IntKind.wrap, IntKind.bits, IntKind.signed]; omega
    have hw2 : IntKind.u64.wrap (-(18446744073709551616 + n)) = (k : Int) := by simp [IntKind.wrap, IntKind.bits, IntKind.signed]; omega
    have hd : decide (n < 0) = true := by simpa using h
    rw [hd] at HS
    clear hz hr hk
    go_enter Tryz.func114, Tryz.ntmps114
    go_wp2_with fail
    refine (of_any k HKB.out).mono ?_
    rintro e w1 ⟨v, rfl, h1, h2⟩
    obtain ⟨A, m, c, rfl⟩ := h1.form
    have hz1 := HZ.out.on h2
    have H1 := Lib.hid h1
    have H2 := Lib.hid h2
    clear h1 h2
    go_wp2_with fail
    refine (is_any true hz1 H1.out).mono ?_
    rintro e w3 ⟨rfl, h1, h2⟩
    rw [val_dig, HS.out] at h1
    have H3 := Lib.hid h1
    have H4 := Lib.hid h2
    clear h1 h2 hz1
    go_wp2
    go_ret
    exact ⟨rfl, H3.out, (Touch.of_below H2.out b o 2).trans H4.out⟩
  · have hw1 : IntKind.u64.wrap n = (k : Int) := by simp [IntKind.wrap, IntKind.bits, IntKind.signed]; omega
    have hd : decide (n < 0) = false := by simpa using h
    rw [hd] at HS
    clear hz hr hk
    go_enter Tryz.func114, Tryz.ntmps114
    go_wp2_with fail
    refine (of_any k HKB.out).mono ?_
    rintro e w1 ⟨v, rfl, h1, h2⟩
    obtain ⟨A, m, c, rfl⟩ := h1.form
    have hz1 := HZ.out.on h2
    have H1 := Lib.hid h1
    have H2 := Lib.hid h2
    clear h1 h2
    go_wp2_with fail
    refine (is_any false hz1 H1.out).mono ?_
    rintro e w3 ⟨rfl, h1, h2⟩
    rw [val_dig, HS.out] at h1
    have H3 := Lib.hid h1
    have H4 := Lib.hid h2
    clear h1 h2 hz1
    go_wp2
    go_ret
    exact ⟨rfl, H3.out, (Touch.of_below H2.out b o 2).trans H4.out⟩

theorem NewInt_any {w : World} {n : Int} (hr : -9223372036854775808 ≤ n ∧ n ≤ 9223372036854775807) :
    Calls Tryz.prog 80 #[.int .i64 n] w fun e w' => ∃ b, e = .returned (.pointer (some ⟨b, 0, none⟩)) ∧ w.heap.size ≤ b ∧ IntAt w' b 0 n ∧ Below w.heap.size w w' := by
  have HR := Lib.hid hr
  clear hr
  go_enter Tryz.func80, Tryz.ntmps80
  go_wp2_with fail
  refine (SetInt64_any (b := w.heap.size) (o := 0) ?_ HR.out).mono ?_
  · exact (IntAt.new _).slot
  rintro e w1 ⟨rfl, h1, h2⟩
  have H1 := Lib.hid h1
  have H2 := Lib.hid h2
  clear h1 h2
  go_wp2
  go_ret
  exact ⟨_, rfl, Nat.le_refl _, H1.out, ((Below.refl _ _).alloc (Nat.le_refl _) _).trans (H2.out.below (Nat.le_refl _) ((Below.refl w.heap.size w).alloc (Nat.le_refl _) _).size)⟩

theorem sg_tdiv (n m : Int) : sg (decide (n < 0) != decide (m < 0)) (n.natAbs / m.natAbs) = n.tdiv m := by
  rcases Int.lt_or_le n 0 with h | h <;> rcases Int.lt_or_le m 0 with k | k
  · obtain ⟨a, rfl⟩ : ∃ a : Nat, n = -(a : Int) := ⟨n.natAbs, by omega⟩
    obtain ⟨c, rfl⟩ : ∃ c : Nat, m = -(c : Int) := ⟨m.natAbs, by omega⟩
    have h1 : decide (-(a : Int) < 0) = true := by simpa using h
    have h2 : decide (-(c : Int) < 0) = true := by simpa using k
    rw [h1, h2, Int.tdiv_neg, Int.neg_tdiv, Int.neg_neg, ← Int.ofNat_tdiv, Int.natAbs_neg, Int.natAbs_neg, Int.natAbs_natCast, Int.natAbs_natCast]
    simp [sg]
  · obtain ⟨a, rfl⟩ : ∃ a : Nat, n = -(a : Int) := ⟨n.natAbs, by omega⟩
    obtain ⟨c, rfl⟩ : ∃ c : Nat, m = (c : Int) := ⟨m.natAbs, by omega⟩
    have h1 : decide (-(a : Int) < 0) = true := by simpa using h
    have h2 : decide ((c : Int) < 0) = false := by simpa using k
    rw [h1, h2, Int.neg_tdiv, ← Int.ofNat_tdiv, Int.natAbs_neg, Int.natAbs_natCast, Int.natAbs_natCast]
    simp [sg]
  · obtain ⟨a, rfl⟩ : ∃ a : Nat, n = (a : Int) := ⟨n.natAbs, by omega⟩
    obtain ⟨c, rfl⟩ : ∃ c : Nat, m = -(c : Int) := ⟨m.natAbs, by omega⟩
    have h1 : decide ((a : Int) < 0) = false := by simpa using h
    have h2 : decide (-(c : Int) < 0) = true := by simpa using k
    rw [h1, h2, Int.tdiv_neg, ← Int.ofNat_tdiv, Int.natAbs_neg, Int.natAbs_natCast, Int.natAbs_natCast]
    simp [sg]
  · obtain ⟨a, rfl⟩ : ∃ a : Nat, n = (a : Int) := ⟨n.natAbs, by omega⟩
    obtain ⟨c, rfl⟩ : ∃ c : Nat, m = (c : Int) := ⟨m.natAbs, by omega⟩
    have h1 : decide ((a : Int) < 0) = false := by simpa using h
    have h2 : decide ((c : Int) < 0) = false := by simpa using k
    rw [h1, h2, ← Int.ofNat_tdiv, Int.natAbs_natCast, Int.natAbs_natCast]
    simp [sg]
theorem sg_tmod (n m : Int) : sg (decide (n < 0)) (n.natAbs % m.natAbs) = n.tmod m := by
  have e : n.natAbs % m.natAbs = (n.tmod m).natAbs := by rw [Int.natAbs_tmod]
  rw [e]
  by_cases h : n < 0
  · have h1 : decide (n < 0) = true := by simpa using h
    obtain ⟨a, rfl⟩ : ∃ a : Nat, n = -(a : Int) := ⟨n.natAbs, by omega⟩
    rw [h1, Int.neg_tmod, Int.natAbs_neg]
    have : 0 ≤ (a : Int).tmod m := Int.tmod_nonneg _ (Int.natCast_nonneg a)
    simp only [sg, if_true]
    omega
  · have h1 : decide (n < 0) = false := by simpa using h
    have : 0 ≤ n.tmod m := Int.tmod_nonneg _ (by omega)
    rw [h1]
    simp only [sg, Bool.false_eq_true, if_false]
    omega

theorem QuoRem_any {w : World} {b o c p d q g i : Nat} {n m : Int} (hz : Slot w b o 2) (hr : Slot w g i 2) (hx : IntAt w c p n) (hy : IntAt w d q m) (h0 : m ≠ 0) (hn : Okn n) :
    Calls Tryz.prog 139 #[.pointer (some ⟨b, o, none⟩), .pointer (some ⟨c, p, none⟩), .pointer (some ⟨d, q, none⟩), .pointer (some ⟨g, i, none⟩)] w fun e w' => e = .returned (.tuple #[.pointer (some ⟨b, o, none⟩), .pointer (some ⟨g, i, none⟩)]) ∧
      ∃ w1, IntAt w1 g i (n.tmod m) ∧ Touch w w1 g i 2 ∧ IntAt w' b o (n.tdiv m) ∧ Touch w1 w' b o 2 := by
  obtain ⟨A, la, ca, hx0, hx1, hxv, hxl⟩ := hx.open_
  obtain ⟨B, lb, cb, hy0, hy1, hyv, hyl⟩ := hy.open_
  have hm0 : 0 < m.natAbs := by omega
  have hla : la ≤ 4294967296 := by have := hxv.len.1; unfold Okn at hn; omega
  have HX0 := Lib.hid hx0
  have HX1 := Lib.hid hx1
  have HXV := Lib.hid hxv
  have HY0 := Lib.hid hy0
  have HY1 := Lib.hid hy1
  have HYV := Lib.hid hyv
  have HZ := Lib.hid hz
  have HR := Lib.hid hr
  have HM0 := Lib.hid hm0
  have HLA := Lib.hid hla
  clear hx hy hx0 hx1 hxv hy0 hy1 hyv hz hr hm0 hla hn h0
  go_enter Tryz.func139, Tryz.ntmps139
  go_wp2
  refine wp_region_acts 14 (fun w' => Below w.heap.size w w') (fun w w' => Below w.heap.size w w') (fun i w v => match i with
      | 0 => v = .pointer (some ⟨c, p, none⟩)
      | 1 => v = .pointer (some ⟨c, p, none⟩)
      | 2 => v = .pointer (some ⟨c, p + 1, none⟩)
      | 3 => v = .slice A la ca
      | 4 => v = .pointer (some ⟨d, q, none⟩)
      | 5 => v = .pointer (some ⟨d, q, none⟩)
      | 6 => v = .pointer (some ⟨d, q + 1, none⟩)
      | 7 => v = .slice B lb cb
      | 8 => ∃ A1 m1 c1 A2 m2 c2, v = .tuple #[.slice A1 m1 c1, .slice A2 m2 c2] ∧ Words w (.slice A1 m1 c1) (dig (n.natAbs / m.natAbs)) ∧ Words w (.slice A2 m2 c2) (dig (n.natAbs % m.natAbs))
      | 9 => ∃ A1 m1 c1 A2 m2 c2, v = .tuple #[.slice A1 m1 c1, .slice A2 m2 c2] ∧ Words w (.slice A1 m1 c1) (dig (n.natAbs / m.natAbs)) ∧ Words w (.slice A2 m2 c2) (dig (n.natAbs % m.natAbs))
      | 10 => ∃ A1 m1 c1, v = .slice A1 m1 c1 ∧ Words w (.slice A1 m1 c1) (dig (n.natAbs / m.natAbs))
      | 11 => ∃ A1 m1 c1, v = .slice A1 m1 c1 ∧ Words w (.slice A1 m1 c1) (dig (n.natAbs % m.natAbs))
      | 12 => ∃ A1 m1 c1, v = .slice A1 m1 c1 ∧ Words w (.slice A1 m1 c1) (dig (n.natAbs / m.natAbs))
      | _ => ∃ A1 m1 c1, v = .slice A1 m1 c1 ∧ Words w (.slice A1 m1 c1) (dig (n.natAbs % m.natAbs))) (by kernel_rfl) (by kernel_rfl) (by kernel_rfl) ((Below.refl _ _).drew) (fun _ _ => Below.refl _ _) ?_ ⟨?_, ?_, ?_, ?_, ?_, ?_, ?_, ?_, ?_, ?_, ?_, ?_, ?_, ?_, trivial⟩ ?_
  · intro i w1 w2 v hC hC2 hE hV
    match i with
    | 0 => exact hV
    | 1 => exact hV
    | 2 => exact hV
    | 3 => exact hV
    | 4 => exact hV
    | 5 => exact hV
    | 6 => exact hV
    | 7 => exact hV
    | 8 => obtain ⟨A1, m1, c1, A2, m2, c2, e, h, k⟩ := hV; exact ⟨A1, m1, c1, A2, m2, c2, e, h.below hE, k.below hE⟩
    | 9 => obtain ⟨A1, m1, c1, A2, m2, c2, e, h, k⟩ := hV; exact ⟨A1, m1, c1, A2, m2, c2, e, h.below hE, k.below hE⟩
    | 10 => obtain ⟨A1, m1, c1, e, h⟩ := hV; exact ⟨A1, m1, c1, e, h.below hE⟩
    | 11 => obtain ⟨A1, m1, c1, e, h⟩ := hV; exact ⟨A1, m1, c1, e, h.below hE⟩
    | 12 => obtain ⟨A1, m1, c1, e, h⟩ := hV; exact ⟨A1, m1, c1, e, h.below hE⟩
    | _ + 13 => obtain ⟨A1, m1, c1, e, h⟩ := hV; exact ⟨A1, m1, c1, e, h.below hE⟩
  · intro a' w' hag hC hd K hK
    have e1 : a'.tmps.getD 1 undef = .pointer (some ⟨c, p, none⟩) := hag 1 rfl
    go_step
    exact hK _ _ hC (Below.refl _ _) rfl
  · intro a' w' hag hC hd K hK
    have e15 : a'.tmps.getD 15 undef = .pointer (some ⟨c, p, none⟩) := hd.1
    go_step
    exact hK _ _ hC (Below.refl _ _) rfl
  · intro a' w' hag hC hd K hK
    have e16 : a'.tmps.getD 16 undef = .pointer (some ⟨c, p, none⟩) := hd.1
    go_step
    exact hK _ _ hC (Below.refl _ _) rfl
  · intro a' w' hag hC hd K hK
    have e17 : a'.tmps.getD 17 undef = .pointer (some ⟨c, p + 1, none⟩) := hd.1
    have hcell : w'.cell? ⟨c, p + 1, none⟩ = some (.slice A la ca) := by rw [hC.cell (p := ⟨c, p + 1, none⟩) hxl]; exact HX1.out
    have HC := Lib.hid hC
    clear hC
    go_step
    exact hK _ _ HC.out (Below.refl _ _) rfl
  · intro a' w' hag hC hd K hK
    have e2 : a'.tmps.getD 2 undef = .pointer (some ⟨d, q, none⟩) := hag 2 rfl
    go_step
    exact hK _ _ hC (Below.refl _ _) rfl
  · intro a' w' hag hC hd K hK
    have e19 : a'.tmps.getD 19 undef = .pointer (some ⟨d, q, none⟩) := hd.1
    go_step
    exact hK _ _ hC (Below.refl _ _) rfl
  · intro a' w' hag hC hd K hK
    have e20 : a'.tmps.getD 20 undef = .pointer (some ⟨d, q, none⟩) := hd.1
    go_step
    exact hK _ _ hC (Below.refl _ _) rfl
  · intro a' w' hag hC hd K hK
    have e21 : a'.tmps.getD 21 undef = .pointer (some ⟨d, q + 1, none⟩) := hd.1
    have hcell : w'.cell? ⟨d, q + 1, none⟩ = some (.slice B lb cb) := by rw [hC.cell (p := ⟨d, q + 1, none⟩) hyl]; exact HY1.out
    have HC := Lib.hid hC
    clear hC
    go_step
    exact hK _ _ HC.out (Below.refl _ _) rfl
  · intro a' w' hag hC hd K hK
    have e18 : a'.tmps.getD 18 undef = .slice A la ca := hd.1
    have e22 : a'.tmps.getD 22 undef = .slice B lb cb := hd.2.1
    go_step
    refine (divide_any (HXV.out.below hC) (HYV.out.below hC) HM0.out HLA.out).mono ?_
    rintro e w2 ⟨v1, v2, rfl, h1, h2, h3⟩
    obtain ⟨A1, m1, c1, rfl⟩ := h1.form
    obtain ⟨A2, m2, c2, rfl⟩ := h2.form
    exact hK _ _ (hC.trans (h3.mono hC.size)) h3 ⟨_, _, _, _, _, _, rfl, h1, h2⟩
  · intro a' w' hag hC hd K hK
    obtain ⟨A1, m1, c1, A2, m2, c2, e23, hq', hr'⟩ := hd.1
    have e23 : a'.tmps.getD 23 undef = .tuple #[.slice A1 m1 c1, .slice A2 m2 c2] := e23
    go_step
    exact hK _ _ hC (Below.refl _ _) ⟨A1, m1, c1, A2, m2, c2, rfl, hq', hr'⟩
  · intro a' w' hag hC hd K hK
    obtain ⟨A1, m1, c1, A2, m2, c2, e14, hq', hr'⟩ := hd.1
    have e14 : a'.tmps.getD 14 undef = .tuple #[.slice A1 m1 c1, .slice A2 m2 c2] := e14
    go_step
    exact hK _ _ hC (Below.refl _ _) ⟨_, _, _, rfl, hq'⟩
  · intro a' w' hag hC hd K hK
    obtain ⟨A1, m1, c1, A2, m2, c2, e14, hq', hr'⟩ := hd.1
    have e14 : a'.tmps.getD 14 undef = .tuple #[.slice A1 m1 c1, .slice A2 m2 c2] := e14
    go_step
    exact hK _ _ hC (Below.refl _ _) ⟨_, _, _, rfl, hr'⟩
  · intro a' w' hag hC hd K hK
    obtain ⟨A1, m1, c1, e24, hq'⟩ := hd.1
    have e24 : a'.tmps.getD 24 undef = .slice A1 m1 c1 := e24
    go_step
    exact hK _ _ hC (Below.refl _ _) ⟨A1, m1, c1, rfl, hq'⟩
  · intro a' w' hag hC hd K hK
    obtain ⟨A2, m2, c2, e25, hr'⟩ := hd.1
    have e25 : a'.tmps.getD 25 undef = .slice A2 m2 c2 := e25
    go_step
    exact hK _ _ hC (Below.refl _ _) ⟨A2, m2, c2, rfl, hr'⟩
  · intro u w' hC hall
    obtain ⟨u0, u1, u2, u3, u4, u5, u6, u7, u8, u9, u10, u11, u12, u13, _⟩ := hall
    have u0 : u 0 = .pointer (some ⟨c, p, none⟩) := u0
    have u1 : u 1 = .pointer (some ⟨c, p, none⟩) := u1
    have u2 : u 2 = .pointer (some ⟨c, p + 1, none⟩) := u2
    have u3 : u 3 = .slice A la ca := u3
    have u4 : u 4 = .pointer (some ⟨d, q, none⟩) := u4
    have u5 : u 5 = .pointer (some ⟨d, q, none⟩) := u5
    have u6 : u 6 = .pointer (some ⟨d, q + 1, none⟩) := u6
    have u7 : u 7 = .slice B lb cb := u7
    obtain ⟨A1, m1, c1, eu12, hq'⟩ := u12
    have u12 : u 12 = .slice A1 m1 c1 := eu12
    obtain ⟨A2, m2, c2, eu13, hr'⟩ := u13
    have u13 : u 13 = .slice A2 m2 c2 := eu13
    simp only [fillR, List.take_succ_cons, List.take_zero, Act.put, List.setIfInBounds_toArray, List.set_cons_succ, List.set_cons_zero, Nat.zero_add, Nat.reduceAdd, u0, u1, u2, u3, u4, u5, u6, u7, u12, u13]
    clear u0 u1 u2 u3 u4 u5 u6 u7 u12 u13
    have hcx : w'.cell? ⟨c, p, none⟩ = some (.bool (decide (n < 0))) := by rw [hC.cell (p := ⟨c, p, none⟩) hxl]; exact HX0.out
    have hcy : w'.cell? ⟨d, q, none⟩ = some (.bool (decide (m < 0))) := by rw [hC.cell (p := ⟨d, q, none⟩) hyl]; exact HY0.out
    have HC := Lib.hid hC
    have HQ := Lib.hid hq'
    have HRR := Lib.hid hr'
    clear hC hq' hr'
    go_wp2
    go_quiet (fail)
    clear hcx hcy
    go_wp2_with (at_builtin; refine wpList_append_copy rfl (.const (.slice none 0 0)) (.tmp 41) rfl _ _ _ _ rfl rfl HRR.out (fun v' w2 h1 h2 => ?_))
    obtain ⟨A3, m3, c3, rfl⟩ := h1.form
    have hb2 : Below w.heap.size w w2 := HC.out.trans ((Below.drewN_ (Below.refl _ _) nq).trans (h2.mono HC.out.size))
    have hr2 : Slot w2 g i 2 := HR.out.on hb2
    have hz2 : Slot w2 b o 2 := HZ.out.on hb2
    have hq2 : Words w2 (.slice A1 m1 c1) (dig (n.natAbs / m.natAbs)) := HQ.out.below ((Below.drewN_ (Below.refl w'.heap.size w') nq).trans h2)
    refine (is_any (decide (n < 0)) hr2 h1).mono ?_
    rintro e w3 ⟨rfl, h3, h4⟩
    rw [val_dig, sg_tmod] at h3
    have hq3 := hq2.touch hr2 h4
    have hz3 := hz2.touch h4
    have HQ3 := Lib.hid hq3
    have HZ3 := Lib.hid hz3
    have H3 := Lib.hid h3
    have H4 := Lib.hid h4
    have HB2 := Lib.hid hb2
    clear h1 h2 h3 h4 hb2 hr2 hz2 hq2 hq3 hz3
    go_wp2_with fail
    refine (is_any (decide (n < 0) != decide (m < 0)) HZ3.out HQ3.out).mono ?_
    rintro e w4 ⟨rfl, h5, h6⟩
    rw [val_dig, sg_tdiv] at h5
    have H5 := Lib.hid h5
    have H6 := Lib.hid h6
    clear h5 h6
    go_wp2
    go_ret2
    exact ⟨rfl, _, H3.out, (Touch.of_below HB2.out g i 2).trans H4.out, H5.out, H6.out⟩

theorem Touch.ne {w w' : World} {b o n g i : Nat} {x : Int} (k : Touch w w' b o n) (h : IntAt w g i x) (hs : Slot w b o n) (hne : g ≠ b) : IntAt w' g i x := h.touch hs k (.inl hne)

theorem Quo_any {w : World} {b o c p d q : Nat} {n m : Int} (hz : Slot w b o 2) (hx : IntAt w c p n) (hy : IntAt w d q m) (h0 : m ≠ 0) (hn : Okn n) :
    Calls Tryz.prog 117 #[.pointer (some ⟨b, o, none⟩), .pointer (some ⟨c, p, none⟩), .pointer (some ⟨d, q, none⟩)] w fun e w' => e = .returned (.pointer (some ⟨b, o, none⟩)) ∧ IntAt w' b o (n.tdiv m) ∧ Touch w w' b o 2 := by
  have HX := Lib.hid hx
  have HY := Lib.hid hy
  have HZ := Lib.hid hz
  have HN := Lib.hid hn
  have H0 := Lib.hid h0
  clear hx hy hz hn h0
  go_enter Tryz.func117, Tryz.ntmps117
  go_wp2_with fail
  have ha : Below w.heap.size w (w.alloc (.cells #[.bool false, .slice none 0 0] 83)) := (Below.refl _ _).alloc (Nat.le_refl _) _
  refine (QuoRem_any (HZ.out.on ha) (IntAt.new w).slot (HX.out.on ha) (HY.out.on ha) H0.out HN.out).mono ?_
  rintro e w2 ⟨rfl, w1, _, h1, h2, h3⟩
  have H2 := Lib.hid h2
  have HT : Hid (Touch w w2 b o 2) := (Touch.of_below (ha.trans (h1.below (Nat.le_refl _) ha.size)) b o 2).trans h3
  clear h1 h2 h3 ha
  go_wp2
  go_ret
  exact ⟨rfl, H2.out, HT.out⟩

/-- Touch of two slots of unlike blocks. -/
structure Touch2 (w w' : World) (b o n g i m : Nat) : Prop where
  os : w'.os = w.os
  tape : w'.tape = w.tape
  output : w'.output = w.output
  size : w.heap.size ≤ w'.heap.size
  block : ∀ k, k < w.heap.size → k ≠ b → k ≠ g → w'.heap[k]? = w.heap[k]?
  own : ∀ cs t fr, w.heap[b]? = some (.cells cs t fr) → ∃ cs', w'.heap[b]? = some (.cells cs' t fr) ∧ cs'.size = cs.size ∧ ∀ j, (j < o ∨ o + n ≤ j) → cs'[j]? = cs[j]?
  own2 : ∀ cs t fr, w.heap[g]? = some (.cells cs t fr) → ∃ cs', w'.heap[g]? = some (.cells cs' t fr) ∧ cs'.size = cs.size ∧ ∀ j, (j < i ∨ i + m ≤ j) → cs'[j]? = cs[j]?

theorem Touch.two {w w' : World} {b o n : Nat} (h : Touch w w' b o n) (g i m : Nat) (hne : g ≠ b) : Touch2 w w' b o n g i m :=
  ⟨h.os, h.tape, h.output, h.size, fun k hk hb _ => h.block k hk hb, h.own, fun cs t fr hg => ⟨cs, by rw [h.block g (heap_some_lt hg) hne]; exact hg, rfl, fun _ _ => rfl⟩⟩
theorem Touch.two' {w w' : World} {g i m : Nat} (h : Touch w w' g i m) (b o n : Nat) (hne : g ≠ b) : Touch2 w w' b o n g i m :=
  ⟨h.os, h.tape, h.output, h.size, fun k hk _ hg => h.block k hk hg, fun cs t fr hb => ⟨cs, by rw [h.block b (heap_some_lt hb) hne.symm]; exact hb, rfl, fun _ _ => rfl⟩, h.own⟩
theorem Touch2.trans {a c d : World} {b o n g i m : Nat} (h : Touch2 a c b o n g i m) (k : Touch2 c d b o n g i m) : Touch2 a d b o n g i m := by
  refine ⟨k.os.trans h.os, k.tape.trans h.tape, k.output.trans h.output, Nat.le_trans h.size k.size, fun j hj h1 h2 => (k.block j (Nat.lt_of_lt_of_le hj h.size) h1 h2).trans (h.block j hj h1 h2), fun cs t fr hb => ?_, fun cs t fr hb => ?_⟩
  · obtain ⟨cs1, h1, h2, h3⟩ := h.own cs t fr hb
    obtain ⟨cs2, k1, k2, k3⟩ := k.own cs1 t fr h1
    exact ⟨cs2, k1, k2.trans h2, fun i hi => (k3 i hi).trans (h3 i hi)⟩
  · obtain ⟨cs1, h1, h2, h3⟩ := h.own2 cs t fr hb
    obtain ⟨cs2, k1, k2, k3⟩ := k.own2 cs1 t fr h1
    exact ⟨cs2, k1, k2.trans h2, fun i hi => (k3 i hi).trans (h3 i hi)⟩
theorem Touch2.fresh {w a w' : World} {b o n g i m : Nat} (hg : w.heap.size ≤ g) (hb : b < w.heap.size) (h : Below w.heap.size w a) (k : Touch2 a w' b o n g i m) : Touch w w' b o n :=
  ⟨k.os.trans h.os, k.tape.trans h.tape, k.output.trans h.output, Nat.le_trans h.size k.size, fun j hj hne => (k.block j (Nat.lt_of_lt_of_le hj h.size) hne (by omega)).trans (h.block j hj), fun cs t fr hc => k.own cs t fr (by rw [h.block b hb]; exact hc)⟩

/-- What DivMod makes of it. -/
theorem divmod_of (n m : Int) (h0 : m ≠ 0) : n / m = (if n.tmod m < 0 then (if m < 0 then n.tdiv m + 1 else n.tdiv m - 1) else n.tdiv m) ∧ n % m = if n.tmod m < 0 then n.tmod m + m.natAbs else n.tmod m := by
  have e := Int.mul_tdiv_add_tmod n m
  have h1 : (n.tmod m).natAbs < m.natAbs := by rw [Int.natAbs_tmod]; exact Nat.mod_lt _ (by omega)
  by_cases h : n.tmod m < 0
  · rw [if_pos h, if_pos h]
    by_cases k : m < 0
    · rw [if_pos k]
      have hm : (m.natAbs : Int) = -m := by omega
      exact (Int.ediv_emod_unique' k).2 ⟨by rw [hm, Int.mul_add]; omega, by omega, by omega⟩
    · rw [if_neg k]
      have hm : (m.natAbs : Int) = m := by omega
      exact (Int.ediv_emod_unique (by omega)).2 ⟨by rw [hm, Int.mul_sub]; omega, by omega, by omega⟩
  · rw [if_neg h, if_neg h]
    rcases Int.lt_or_le m 0 with k | k
    · exact (Int.ediv_emod_unique' k).2 ⟨by omega, by omega, by omega⟩
    · exact (Int.ediv_emod_unique (by omega)).2 ⟨by omega, by omega, by omega⟩

theorem Okn.le {n m : Int} (h : n.natAbs ≤ m.natAbs) (hm : Okn m) : Okn n := Nat.le_trans (dig_len_mono _ _ h) hm
theorem Okn.small {n : Int} (h : n.natAbs < 4294967296 ^ 100) : Okn n := Nat.le_trans (dig_len_le _ 100 h) (by decide)

theorem DivMod_any {w : World} {b o c p d q g i : Nat} {n m : Int} (hz : Slot w b o 2) (hr : Slot w g i 2) (hx : IntAt w c p n) (hy : IntAt w d q m) (h0 : m ≠ 0) (hn : Okn n) (hm : Okn m) (hne : g ≠ b) :
    Calls Tryz.prog 129 #[.pointer (some ⟨b, o, none⟩), .pointer (some ⟨c, p, none⟩), .pointer (some ⟨d, q, none⟩), .pointer (some ⟨g, i, none⟩)] w fun e w' => e = .returned (.tuple #[.pointer (some ⟨b, o, none⟩), .pointer (some ⟨g, i, none⟩)]) ∧
      IntAt w' g i (n % m) ∧ IntAt w' b o (n / m) ∧ Touch2 w w' b o 2 g i 2 := by
  have HX := Lib.hid hx
  have HY := Lib.hid hy
  have HZ := Lib.hid hz
  have HR := Lib.hid hr
  have HN := Lib.hid hn
  have HM := Lib.hid hm
  have H0 := Lib.hid h0
  have HE := Lib.hid hne
  have HD := Lib.hid (divmod_of n m h0)
  have HNQ : Hid (Okn (n.tdiv m)) := hn.le (by rw [Int.natAbs_tdiv]; exact Nat.div_le_self _ _)
  have HNR : Hid (Okn (n.tmod m)) := hn.le (by rw [Int.natAbs_tmod]; exact Nat.mod_le _ _)
  have HMA : Hid (Okn (m.natAbs : Int)) := hm.le (by omega)
  have HBW : Hid (w.heap.size ≠ b) := by have := hz.lt; unfold Hid; omega
  clear hx hy hz hr hn h0 hm hne
  go_enter Tryz.func129, Tryz.ntmps129
  go_wp2_with fail
  have ha : Below w.heap.size w (w.alloc (.cells #[.bool false, .slice none 0 0] 83)) := (Below.refl _ _).alloc (Nat.le_refl _) _
  refine (set_any (IntAt.new w).slot (HY.out.on ha)).mono ?_
  rintro e w1 ⟨rfl, h1, h2⟩
  have hb1 := ha.trans (h2.below (Nat.le_refl _) ha.size)
  have HB1 := Lib.hid hb1
  have H1 := Lib.hid h1
  clear h1 h2 hb1 ha
  go_wp2_with fail
  refine (QuoRem_any (HZ.out.on HB1.out) (HR.out.on HB1.out) (HX.out.on HB1.out) (HY.out.on HB1.out) H0.out HN.out).mono ?_
  rintro e w3 ⟨rfl, w2, h3, h4, h5, h6⟩
  have hz2 : Slot w2 b o 2 := (HZ.out.on HB1.out).touch h4
  have hr2 : Slot w2 g i 2 := (HR.out.on HB1.out).touch h4
  have HZ3 : Hid (Slot w3 b o 2) := hz2.touch h6
  have HR3 : Hid (Slot w3 g i 2) := hr2.touch h6
  have h7 : IntAt w3 g i (n.tmod m) := h6.ne h3 hz2 HE.out
  have h8 : IntAt w2 w.heap.size 0 m := h4.ne H1.out (HR.out.on HB1.out) (by have := HR.out.lt; omega)
  have HDD : Hid (IntAt w3 w.heap.size 0 m) := h6.ne h8 hz2 (by have := HZ.out.lt; omega)
  have HT : Hid (Touch2 w w3 b o 2 g i 2) := ((Touch.of_below HB1.out b o 2).two g i 2 HE.out).trans ((h4.two' b o 2 HE.out).trans (h6.two g i 2 HE.out))
  obtain ⟨A, la, ca, hc0, _, _, hlt⟩ := h7.open_
  obtain ⟨B, lb, cb, hd0, _, _, hltd⟩ := HDD.out.open_
  have HG := Lib.hid h7
  have HQ := Lib.hid h5
  clear h3 h4 h5 h6 h7 h8 hz2 hr2 H1 HB1 HX HY HZ HR
  by_cases hs : n.tmod m < 0
  · have hsd : decide (n.tmod m < 0) = true := by simpa using hs
    rw [hsd] at hc0
    have HS := Lib.hid hs
    clear hs
    by_cases k : m < 0
    · have kd : decide (m < 0) = true := by simpa using k
      rw [kd] at hd0
      have HK := Lib.hid k
      clear k
      go_wp2_with fail
      refine (NewInt_any (by omega)).mono ?_
      rintro e w4 ⟨b1, rfl, _, h1, h2⟩
      have HQ4 : Hid (IntAt w4 b o (n.tdiv m)) := HQ.out.on h2
      have HZ4 : Hid (Slot w4 b o 2) := HZ3.out.on h2
      have HG4 : Hid (IntAt w4 g i (n.tmod m)) := HG.out.on h2
      have HD4 : Hid (IntAt w4 w.heap.size 0 m) := HDD.out.on h2
      have HT4 : Hid (Touch2 w w4 b o 2 g i 2) := HT.out.trans ((Touch.of_below h2 b o 2).two g i 2 HE.out)
      have H1 := Lib.hid h1
      clear h1 h2 HQ HZ3 HR3 HG HDD HT hc0 hd0 hlt hltd
      go_wp2_with fail
      refine (Add_any HZ4.out HQ4.out H1.out HNQ.out (Okn.small (by decide))).mono ?_
      rintro e w5 ⟨rfl, h3, h4⟩
      have HQ5 := Lib.hid h3
      have HG5 : Hid (IntAt w5 g i (n.tmod m)) := h4.ne HG4.out HZ4.out HE.out
      have HD5 : Hid (IntAt w5 w.heap.size 0 m) := h4.ne HD4.out HZ4.out HBW.out
      have HT5 : Hid (Touch2 w w5 b o 2 g i 2) := HT4.out.trans (h4.two g i 2 HE.out)
      clear h3 h4 HQ4 HZ4 HG4 HD4 HT4 H1
      go_wp2_with fail
      have ha5 : Below w5.heap.size w5 (w5.alloc (.cells #[.bool false, .slice none 0 0] 83)) := (Below.refl _ _).alloc (Nat.le_refl _) _
      refine (abs_any (IntAt.new w5).slot (HD5.out.on ha5)).mono ?_
      rintro e w6 ⟨rfl, h5, h6⟩
      have hb6 := ha5.trans (h6.below (Nat.le_refl _) ha5.size)
      have HQ6 : Hid (IntAt w6 b o (n.tdiv m + 1)) := HQ5.out.on hb6
      have HG6 : Hid (IntAt w6 g i (n.tmod m)) := HG5.out.on hb6
      have HT6 : Hid (Touch2 w w6 b o 2 g i 2) := HT5.out.trans ((Touch.of_below hb6 b o 2).two g i 2 HE.out)
      have H5 := Lib.hid h5
      clear h5 h6 hb6 ha5 HQ5 HG5 HD5 HT5
      go_wp2_with fail
      refine (Add_any HG6.out.slot HG6.out H5.out HNR.out HMA.out).mono ?_
      rintro e w7 ⟨rfl, h7, h8⟩
      have HQ7 : Hid (IntAt w7 b o (n.tdiv m + 1)) := h8.ne HQ6.out HG6.out.slot HE.out.symm
      have HG7 := Lib.hid h7
      have HT7 : Hid (Touch2 w w7 b o 2 g i 2) := HT6.out.trans (h8.two' b o 2 HE.out)
      clear h7 h8 HQ6 HG6 HT6 H5
      go_wp2
      go_ret2
      have := HD.out
      rw [if_pos HS.out, if_pos HS.out, if_pos HK.out] at this
      exact ⟨rfl, by rw [this.2]; exact HG7.out, by rw [this.1]; exact HQ7.out, HT7.out⟩
    · have kd : decide (m < 0) = false := by simpa using k
      rw [kd] at hd0
      have HK := Lib.hid k
      clear k
      go_wp2_with fail
      refine (NewInt_any (by omega)).mono ?_
      rintro e w4 ⟨b1, rfl, _, h1, h2⟩
      have HQ4 : Hid (IntAt w4 b o (n.tdiv m)) := HQ.out.on h2
      have HZ4 : Hid (Slot w4 b o 2) := HZ3.out.on h2
      have HG4 : Hid (IntAt w4 g i (n.tmod m)) := HG.out.on h2
      have HD4 : Hid (IntAt w4 w.heap.size 0 m) := HDD.out.on h2
      have HT4 : Hid (Touch2 w w4 b o 2 g i 2) := HT.out.trans ((Touch.of_below h2 b o 2).two g i 2 HE.out)
      have H1 := Lib.hid h1
      clear h1 h2 HQ HZ3 HR3 HG HDD HT hc0 hd0 hlt hltd
      go_wp2_with fail
      refine (Sub_any HZ4.out HQ4.out H1.out HNQ.out (Okn.small (by decide))).mono ?_
      rintro e w5 ⟨rfl, h3, h4⟩
      have HQ5 := Lib.hid h3
      have HG5 : Hid (IntAt w5 g i (n.tmod m)) := h4.ne HG4.out HZ4.out HE.out
      have HD5 : Hid (IntAt w5 w.heap.size 0 m) := h4.ne HD4.out HZ4.out HBW.out
      have HT5 : Hid (Touch2 w w5 b o 2 g i 2) := HT4.out.trans (h4.two g i 2 HE.out)
      clear h3 h4 HQ4 HZ4 HG4 HD4 HT4 H1
      go_wp2_with fail
      have ha5 : Below w5.heap.size w5 (w5.alloc (.cells #[.bool false, .slice none 0 0] 83)) := (Below.refl _ _).alloc (Nat.le_refl _) _
      refine (abs_any (IntAt.new w5).slot (HD5.out.on ha5)).mono ?_
      rintro e w6 ⟨rfl, h5, h6⟩
      have hb6 := ha5.trans (h6.below (Nat.le_refl _) ha5.size)
      have HQ6 : Hid (IntAt w6 b o (n.tdiv m - 1)) := HQ5.out.on hb6
      have HG6 : Hid (IntAt w6 g i (n.tmod m)) := HG5.out.on hb6
      have HT6 : Hid (Touch2 w w6 b o 2 g i 2) := HT5.out.trans ((Touch.of_below hb6 b o 2).two g i 2 HE.out)
      have H5 := Lib.hid h5
      clear h5 h6 hb6 ha5 HQ5 HG5 HD5 HT5
      go_wp2_with fail
      refine (Add_any HG6.out.slot HG6.out H5.out HNR.out HMA.out).mono ?_
      rintro e w7 ⟨rfl, h7, h8⟩
      have HQ7 : Hid (IntAt w7 b o (n.tdiv m - 1)) := h8.ne HQ6.out HG6.out.slot HE.out.symm
      have HG7 := Lib.hid h7
      have HT7 : Hid (Touch2 w w7 b o 2 g i 2) := HT6.out.trans (h8.two' b o 2 HE.out)
      clear h7 h8 HQ6 HG6 HT6 H5
      go_wp2
      go_ret2
      have := HD.out
      rw [if_pos HS.out, if_pos HS.out, if_neg (Int.not_lt.2 HK.out)] at this
      exact ⟨rfl, by rw [this.2]; exact HG7.out, by rw [this.1]; exact HQ7.out, HT7.out⟩
  · have hsd : decide (n.tmod m < 0) = false := by simpa using hs
    rw [hsd] at hc0
    have HS := Lib.hid hs
    clear hs
    go_wp2
    go_ret2
    have := HD.out
    rw [if_neg (Int.not_lt.2 HS.out), if_neg (Int.not_lt.2 HS.out)] at this
    exact ⟨rfl, by rw [this.2]; exact HG.out, by rw [this.1]; exact HQ.out, HT.out⟩

theorem Div_any {w : World} {b o c p d q : Nat} {n m : Int} (hz : Slot w b o 2) (hx : IntAt w c p n) (hy : IntAt w d q m) (h0 : m ≠ 0) (hn : Okn n) (hm : Okn m) :
    Calls Tryz.prog 103 #[.pointer (some ⟨b, o, none⟩), .pointer (some ⟨c, p, none⟩), .pointer (some ⟨d, q, none⟩)] w fun e w' => e = .returned (.pointer (some ⟨b, o, none⟩)) ∧ IntAt w' b o (n / m) ∧ Touch w w' b o 2 := by
  have HX := Lib.hid hx
  have HY := Lib.hid hy
  have HZ := Lib.hid hz
  have HN := Lib.hid hn
  have HM := Lib.hid hm
  have H0 := Lib.hid h0
  clear hx hy hz hn h0 hm
  go_enter Tryz.func103, Tryz.ntmps103
  go_wp2_with fail
  have ha : Below w.heap.size w (w.alloc (.cells #[.bool false, .slice none 0 0] 83)) := (Below.refl _ _).alloc (Nat.le_refl _) _
  refine (DivMod_any (HZ.out.on ha) (IntAt.new w).slot (HX.out.on ha) (HY.out.on ha) H0.out HN.out HM.out (by have := HZ.out.lt; omega)).mono ?_
  rintro e w4 ⟨rfl, _, h2, h3⟩
  have H2 := Lib.hid h2
  have HT : Hid (Touch w w4 b o 2) := h3.fresh (Nat.le_refl _) HZ.out.lt ha
  clear h3 h2 ha
  go_wp2
  go_ret
  exact ⟨rfl, H2.out, HT.out⟩
end Go.Proofs.YtaenedjanckaiaaGreat
