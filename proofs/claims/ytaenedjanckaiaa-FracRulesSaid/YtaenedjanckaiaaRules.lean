/- The walk of FracRules. -/
import Derived.Test.YtaenedjanckaiaaLawA
namespace Go.Proofs.Ytaenedjanckaiaa
set_option linter.unnecessarySimpa false
set_option linter.unusedVariables false
set_option linter.unusedSimpArgs false
open Go.RowKit

theorem frac_sz {b c : Bool} {s t : ByteArray} {x : Rat} {k : Nat} (h : (Value.agg #[.bool b, .string s, .bool c, .string t]) = fracV x) (h1 : s.size ≤ k) (h2 : t.size ≤ k) : Sz k x := by
  obtain ⟨_, rfl, _, rfl⟩ := agg4 h
  exact ⟨h1, by rw [sz_nat]; exact h2⟩
def three (f g h : ByteArray) (j : Nat) : ByteArray := if j = 0 then f else if j = 1 then g else h
theorem div_fit {va vb v : Value} {k : Int} {x y : Rat} (h : DivAns va vb v k) (ha : va = fracV x) (hb : vb = fracV y) (hx : Fit x) (hy : Fit y) (h0 : y ≠ 0) : Ans (x / y) v k := by
  rcases h with ⟨_, h1, _⟩ | ⟨_, h1⟩ | ⟨h1, _⟩
  · rw [hb] at h1; exact absurd (fracV_inj h1) h0
  · exact bin_fit h1 ha hb hx hy
  · rcases h1 with h1 | h1
    · exact absurd ⟨x, hx, ha⟩ h1
    · exact absurd ⟨y, hy, hb⟩ h1
theorem cmp_fit {va vb : Value} {n k : Int} {x y : Rat} (h : CmpAns va vb n k) (ha : va = fracV x) (hb : vb = fracV y) (hx : Fit x) (hy : Fit y) : n = cmpQ x y ∧ k = 0 := by
  rcases h with ⟨x', y', _, _, h1, h2, h3, h4⟩ | ⟨h1, _⟩
  · rw [ha] at h1; rw [hb] at h2
    rw [fracV_inj h1, fracV_inj h2]
    exact ⟨h3, h4⟩
  · rcases h1 with h1 | h1
    · exact absurd ⟨x, hx, ha⟩ h1
    · exact absurd ⟨y, hy, hb⟩ h1
theorem sign_fit {va : Value} {k : Int} {x : Rat} (h : (∃ x, Fit x ∧ va = fracV x ∧ k = x.num.sign) ∨ (¬ IsFrac va ∧ k = 0)) (ha : va = fracV x) (hx : Fit x) : k = x.num.sign := by
  rcases h with ⟨x', _, h1, h2⟩ | ⟨h1, _⟩
  · rw [ha] at h1
    rw [fracV_inj h1]
    exact h2
  · exact absurd ⟨x, hx, ha⟩ h1
set_option maxHeartbeats 6400000 in
set_option maxRecDepth 100000 in
theorem FracRules_walk {w0 : World} (b1 c1 b2 c2 b3 c3 : Bool) (s1 t1 s2 t2 s3 t3 : ByteArray) (hs1 : s1.size ≤ maxLen) (ht1 : t1.size ≤ maxLen) (hs2 : s2.size ≤ maxLen) (ht2 : t2.size ≤ maxLen) (hs3 : s3.size ≤ maxLen) (ht3 : t3.size ≤ maxLen) :
    Calls Try.prog 4 #[.agg #[.bool b1, .string s1, .bool c1, .string t1], .agg #[.bool b2, .string s2, .bool c2, .string t2], .agg #[.bool b3, .string s3, .bool c3, .string t3]] w0 fun e w' => e = .returned (.bool true) ∧ Below w0.heap.size w0 w' := by
  have HS1 := Lib.hid hs1
  have HT1 := Lib.hid ht1
  have HS2 := Lib.hid hs2
  have HT2 := Lib.hid ht2
  have HS3 := Lib.hid hs3
  have HT3 := Lib.hid ht3
  have HF := (Frames.nil w0)
  have HF := HF.push (w0.heap.size) #[.bool b1, .string s1, .bool c1, .string t1] 26 (by simp)
  have HF := HF.push (w0.heap.size + 1) #[.bool b2, .string s2, .bool c2, .string t2] 26 (by simp)
  have HF := HF.push (w0.heap.size + 1 + 1) #[.bool b3, .string s3, .bool c3, .string t3] 26 (by simp)
  have HB := below_alloc_ (below_alloc_ (below_new w0 (.cells #[.bool b1, .string s1, .bool c1, .string t1] 26)) (.cells #[.bool b2, .string s2, .bool c2, .string t2] 26)) (.cells #[.bool b3, .string s3, .bool c3, .string t3] 26)
  have HN := BoxAt.new_at (w := ((w0.alloc (.cells #[.bool b1, .string s1, .bool c1, .string t1] 26)).alloc (.cells #[.bool b2, .string s2, .bool c2, .string t2] 26)).alloc (.cells #[.bool b3, .string s3, .bool c3, .string t3] 26)) (n := w0.heap.size + 1 + 1 + 1) #[.bool b1, .string s1, .bool c1, .string t1, .bool b2, .string s2, .bool c2, .string t2, .bool b3, .string s3, .bool c3, .string t3] 26 (by simp)
  have HBN := below_new (((w0.alloc (.cells #[.bool b1, .string s1, .bool c1, .string t1] 26)).alloc (.cells #[.bool b2, .string s2, .bool c2, .string t2] 26)).alloc (.cells #[.bool b3, .string s3, .bool c3, .string t3] 26)) (.cells #[.bool b1, .string s1, .bool c1, .string t1, .bool b2, .string s2, .bool c2, .string t2, .bool b3, .string s3, .bool c3, .string t3] 26)
  have HF0 := Lib.hid (HF.on HBN)
  have HB0 := Lib.hid (HB.trans (HBN.mono HB.size))
  have HL := Lib.hid (long_any (cap := 3) 150 (three s1 s2 s3) (three t1 t2 t3) (n := 3) (by decide) (by decide)
    (fun j hj => by
      rcases (by omega : j = 0 ∨ j = 1 ∨ j = 2) with rfl | rfl | rfl
      · exact HN.cell 1 _ rfl
      · exact HN.cell 5 _ rfl
      · exact HN.cell 9 _ rfl)
    (fun j hj => by
      rcases (by omega : j = 0 ∨ j = 1 ∨ j = 2) with rfl | rfl | rfl
      · exact HN.cell 3 _ rfl
      · exact HN.cell 7 _ rfl
      · exact HN.cell 11 _ rfl))
  clear HF HB HN HBN hs1 ht1 hs2 ht2 hs3 ht3
  go_enter Try.func4, Try.ntmps4
  go_wp2_with fail
  refine HL.out.mono ?_
  rintro e w1 ⟨r, rfl, hr, rfl⟩
  have HR := Lib.hid hr
  clear hr HL
  cases r
  rotate_left
  · clear HR
    go_wp2_with fail
    refine known_any.mono ?_
    rintro e wk ⟨rfl, hb⟩
    have HBK := Lib.hid (HB0.out.trans (hb.mono HB0.out.size))
    clear hb
    go_wp2
    go_ret
    exact ⟨rfl, HBK.out⟩
  have HLL : Hid (s1.size ≤ 150 ∧ t1.size ≤ 150 ∧ s2.size ≤ 150 ∧ t2.size ≤ 150 ∧ s3.size ≤ 150 ∧ t3.size ≤ 150) := by
    have h : ¬ ∃ j, j < 3 ∧ (150 < (three s1 s2 s3 j).size ∨ 150 < (three t1 t2 t3 j).size) := fun h => Bool.noConfusion (HR.out.2 h)
    have h0 : ∀ j, j < 3 → (three s1 s2 s3 j).size ≤ 150 ∧ (three t1 t2 t3 j).size ≤ 150 := fun j hj => ⟨Nat.not_lt.1 fun h1 => h ⟨j, hj, .inl h1⟩, Nat.not_lt.1 fun h1 => h ⟨j, hj, .inr h1⟩⟩
    exact ⟨(h0 0 (by decide)).1, (h0 0 (by decide)).2, (h0 1 (by decide)).1, (h0 1 (by decide)).2, (h0 2 (by decide)).1, (h0 2 (by decide)).2⟩
  clear HR
  have hc1_0 := (HF0.out.get 2 rfl).cell 0 (.bool b1) rfl
  have hc1_1 := (HF0.out.get 2 rfl).cell 1 (.string s1) rfl
  have hc1_2 := (HF0.out.get 2 rfl).cell 2 (.bool c1) rfl
  have hc1_3 := (HF0.out.get 2 rfl).cell 3 (.string t1) rfl
  go_wp2_with fail
  refine (May_any b1 c1 s1 t1 HS1.out HT1.out).mono ?_
  rintro e w2 ⟨r, rfl, hr, hb⟩
  have HF1 := Lib.hid (HF0.out.on hb)
  have HB1 := Lib.hid (HB0.out.trans (hb.mono HB0.out.size))
  have HR := Lib.hid hr
  clear hr hb HF0 HB0 hc1_0 hc1_1 hc1_2 hc1_3
  cases r
  · clear HR
    go_wp2_with fail
    refine known_any.mono ?_
    rintro e wk ⟨rfl, hb⟩
    have HBK := Lib.hid (HB1.out.trans (hb.mono HB1.out.size))
    clear hb
    go_wp2
    go_ret
    exact ⟨rfl, HBK.out⟩
  have HI : Hid (IsFrac (.agg #[.bool b1, .string s1, .bool c1, .string t1])) := by first | exact HR.out.1 rfl | exact HR.out.1 trivial
  obtain ⟨x, hp⟩ := parts_of HI.out
  have HV1 := Lib.hid hp.val
  have HZ1 : Hid (Sz 150 x) := frac_sz hp.val HLL.out.1 HLL.out.2.1
  clear hp HI HR
  have hc2_0 := (HF1.out.get 1 rfl).cell 0 (.bool b2) rfl
  have hc2_1 := (HF1.out.get 1 rfl).cell 1 (.string s2) rfl
  have hc2_2 := (HF1.out.get 1 rfl).cell 2 (.bool c2) rfl
  have hc2_3 := (HF1.out.get 1 rfl).cell 3 (.string t2) rfl
  go_wp2_with fail
  refine (May_any b2 c2 s2 t2 HS2.out HT2.out).mono ?_
  rintro e w3 ⟨r, rfl, hr, hb⟩
  have HF2 := Lib.hid (HF1.out.on hb)
  have HB2 := Lib.hid (HB1.out.trans (hb.mono HB1.out.size))
  have HR := Lib.hid hr
  clear hr hb HF1 HB1 hc2_0 hc2_1 hc2_2 hc2_3
  cases r
  · clear HR
    go_wp2_with fail
    refine known_any.mono ?_
    rintro e wk ⟨rfl, hb⟩
    have HBK := Lib.hid (HB2.out.trans (hb.mono HB2.out.size))
    clear hb
    go_wp2
    go_ret
    exact ⟨rfl, HBK.out⟩
  have HI : Hid (IsFrac (.agg #[.bool b2, .string s2, .bool c2, .string t2])) := by first | exact HR.out.1 rfl | exact HR.out.1 trivial
  obtain ⟨y, hp⟩ := parts_of HI.out
  have HV2 := Lib.hid hp.val
  have HZ2 : Hid (Sz 150 y) := frac_sz hp.val HLL.out.2.2.1 HLL.out.2.2.2.1
  clear hp HI HR
  have hc3_0 := (HF2.out.get 0 rfl).cell 0 (.bool b3) rfl
  have hc3_1 := (HF2.out.get 0 rfl).cell 1 (.string s3) rfl
  have hc3_2 := (HF2.out.get 0 rfl).cell 2 (.bool c3) rfl
  have hc3_3 := (HF2.out.get 0 rfl).cell 3 (.string t3) rfl
  go_wp2_with fail
  refine (May_any b3 c3 s3 t3 HS3.out HT3.out).mono ?_
  rintro e w4 ⟨r, rfl, hr, hb⟩
  have HF3 := Lib.hid (HF2.out.on hb)
  have HB3 := Lib.hid (HB2.out.trans (hb.mono HB2.out.size))
  have HR := Lib.hid hr
  clear hr hb HF2 HB2 hc3_0 hc3_1 hc3_2 hc3_3
  cases r
  · clear HR
    go_wp2_with fail
    refine known_any.mono ?_
    rintro e wk ⟨rfl, hb⟩
    have HBK := Lib.hid (HB3.out.trans (hb.mono HB3.out.size))
    clear hb
    go_wp2
    go_ret
    exact ⟨rfl, HBK.out⟩
  have HI : Hid (IsFrac (.agg #[.bool b3, .string s3, .bool c3, .string t3])) := by first | exact HR.out.1 rfl | exact HR.out.1 trivial
  obtain ⟨z, hp⟩ := parts_of HI.out
  have HV3 := Lib.hid hp.val
  have HZ3 : Hid (Sz 150 z) := frac_sz hp.val HLL.out.2.2.2.2.1 HLL.out.2.2.2.2.2
  clear hp HI HR
  have hc1_0 := (HF3.out.get 2 rfl).cell 0 (.bool b1) rfl
  have hc1_1 := (HF3.out.get 2 rfl).cell 1 (.string s1) rfl
  have hc1_2 := (HF3.out.get 2 rfl).cell 2 (.bool c1) rfl
  have hc1_3 := (HF3.out.get 2 rfl).cell 3 (.string t1) rfl
  have hc2_0 := (HF3.out.get 1 rfl).cell 0 (.bool b2) rfl
  have hc2_1 := (HF3.out.get 1 rfl).cell 1 (.string s2) rfl
  have hc2_2 := (HF3.out.get 1 rfl).cell 2 (.bool c2) rfl
  have hc2_3 := (HF3.out.get 1 rfl).cell 3 (.string t2) rfl
  go_wp2_with fail
  refine (FAdd_any b1 c1 b2 c2 s1 t1 s2 t2 (frac_sizes HV1.out (HZ1.out.fit (by decide))).1 (frac_sizes HV1.out (HZ1.out.fit (by decide))).2 (frac_sizes HV2.out (HZ2.out.fit (by decide))).1 (frac_sizes HV2.out (HZ2.out.fit (by decide))).2).mono ?_
  rintro e w5 ⟨v, k, rfl, ha, hb⟩
  have hz : Sz 301 (x + y) := HZ1.out.add HZ2.out
  obtain ⟨hv, rfl⟩ := ans_fit (bin_fit ha HV1.out HV2.out (HZ1.out.fit (by decide)) (HZ2.out.fit (by decide))) (hz.fit (by decide))
  obtain ⟨b4, s4, c4, t4, hv1⟩ : ∃ b s c t, v = .agg #[.bool b, .string s, .bool c, .string t] := ⟨_, _, _, _, hv⟩
  subst hv1
  have HV4 := Lib.hid hv
  have HZ4 := Lib.hid hz
  clear hv hz
  have HF4 := Lib.hid ((HF3.out.on hb).push w5.heap.size #[.bool b4, .string s4, .bool c4, .string t4] 26 rfl)
  have HB4 := Lib.hid (below_alloc_ (HB3.out.trans (hb.mono HB3.out.size)) (.cells #[.bool b4, .string s4, .bool c4, .string t4] 26))
  clear ha hb HF3 HB3 hc1_0 hc1_1 hc1_2 hc1_3 hc2_0 hc2_1 hc2_2 hc2_3
  have hc2_0 := (HF4.out.get 2 rfl).cell 0 (.bool b2) rfl
  have hc2_1 := (HF4.out.get 2 rfl).cell 1 (.string s2) rfl
  have hc2_2 := (HF4.out.get 2 rfl).cell 2 (.bool c2) rfl
  have hc2_3 := (HF4.out.get 2 rfl).cell 3 (.string t2) rfl
  have hc1_0 := (HF4.out.get 3 rfl).cell 0 (.bool b1) rfl
  have hc1_1 := (HF4.out.get 3 rfl).cell 1 (.string s1) rfl
  have hc1_2 := (HF4.out.get 3 rfl).cell 2 (.bool c1) rfl
  have hc1_3 := (HF4.out.get 3 rfl).cell 3 (.string t1) rfl
  go_wp2_with fail
  refine (FAdd_any b2 c2 b1 c1 s2 t2 s1 t1 (frac_sizes HV2.out (HZ2.out.fit (by decide))).1 (frac_sizes HV2.out (HZ2.out.fit (by decide))).2 (frac_sizes HV1.out (HZ1.out.fit (by decide))).1 (frac_sizes HV1.out (HZ1.out.fit (by decide))).2).mono ?_
  rintro e w6 ⟨v, k, rfl, ha, hb⟩
  have hz : Sz 301 (y + x) := HZ2.out.add HZ1.out
  obtain ⟨hv, rfl⟩ := ans_fit (bin_fit ha HV2.out HV1.out (HZ2.out.fit (by decide)) (HZ1.out.fit (by decide))) (hz.fit (by decide))
  have hq : (y + x) = (x + y) := Rat.add_comm _ _
  have hv1 : v = .agg #[.bool b4, .string s4, .bool c4, .string t4] := by rw [hv]; exact (congrArg fracV hq).trans HV4.out.symm
  subst hv1
  have HV5 := Lib.hid hv
  rw [hq] at HV5
  have HZ5 := Lib.hid hz
  rw [hq] at HZ5
  clear hv hz hq
  have HF5 := Lib.hid ((HF4.out.on hb).push w6.heap.size #[.bool b4, .string s4, .bool c4, .string t4] 26 rfl)
  have HB5 := Lib.hid (below_alloc_ (HB4.out.trans (hb.mono HB4.out.size)) (.cells #[.bool b4, .string s4, .bool c4, .string t4] 26))
  clear ha hb HF4 HB4 hc2_0 hc2_1 hc2_2 hc2_3 hc1_0 hc1_1 hc1_2 hc1_3
  have hc2_0 := (HF5.out.get 3 rfl).cell 0 (.bool b2) rfl
  have hc2_1 := (HF5.out.get 3 rfl).cell 1 (.string s2) rfl
  have hc2_2 := (HF5.out.get 3 rfl).cell 2 (.bool c2) rfl
  have hc2_3 := (HF5.out.get 3 rfl).cell 3 (.string t2) rfl
  have hc3_0 := (HF5.out.get 2 rfl).cell 0 (.bool b3) rfl
  have hc3_1 := (HF5.out.get 2 rfl).cell 1 (.string s3) rfl
  have hc3_2 := (HF5.out.get 2 rfl).cell 2 (.bool c3) rfl
  have hc3_3 := (HF5.out.get 2 rfl).cell 3 (.string t3) rfl
  go_wp2_with fail
  refine (FAdd_any b2 c2 b3 c3 s2 t2 s3 t3 (frac_sizes HV2.out (HZ2.out.fit (by decide))).1 (frac_sizes HV2.out (HZ2.out.fit (by decide))).2 (frac_sizes HV3.out (HZ3.out.fit (by decide))).1 (frac_sizes HV3.out (HZ3.out.fit (by decide))).2).mono ?_
  rintro e w7 ⟨v, k, rfl, ha, hb⟩
  have hz : Sz 301 (y + z) := HZ2.out.add HZ3.out
  obtain ⟨hv, rfl⟩ := ans_fit (bin_fit ha HV2.out HV3.out (HZ2.out.fit (by decide)) (HZ3.out.fit (by decide))) (hz.fit (by decide))
  obtain ⟨b6, s6, c6, t6, hv1⟩ : ∃ b s c t, v = .agg #[.bool b, .string s, .bool c, .string t] := ⟨_, _, _, _, hv⟩
  subst hv1
  have HV6 := Lib.hid hv
  have HZ6 := Lib.hid hz
  clear hv hz
  have HF6 := Lib.hid ((HF5.out.on hb).push w7.heap.size #[.bool b6, .string s6, .bool c6, .string t6] 26 rfl)
  have HB6 := Lib.hid (below_alloc_ (HB5.out.trans (hb.mono HB5.out.size)) (.cells #[.bool b6, .string s6, .bool c6, .string t6] 26))
  clear ha hb HF5 HB5 hc2_0 hc2_1 hc2_2 hc2_3 hc3_0 hc3_1 hc3_2 hc3_3
  have hc4_0 := (HF6.out.get 2 rfl).cell 0 (.bool b4) rfl
  have hc4_1 := (HF6.out.get 2 rfl).cell 1 (.string s4) rfl
  have hc4_2 := (HF6.out.get 2 rfl).cell 2 (.bool c4) rfl
  have hc4_3 := (HF6.out.get 2 rfl).cell 3 (.string t4) rfl
  have hc3_0 := (HF6.out.get 3 rfl).cell 0 (.bool b3) rfl
  have hc3_1 := (HF6.out.get 3 rfl).cell 1 (.string s3) rfl
  have hc3_2 := (HF6.out.get 3 rfl).cell 2 (.bool c3) rfl
  have hc3_3 := (HF6.out.get 3 rfl).cell 3 (.string t3) rfl
  go_wp2_with fail
  refine (FAdd_any b4 c4 b3 c3 s4 t4 s3 t3 (frac_sizes HV4.out (HZ4.out.fit (by decide))).1 (frac_sizes HV4.out (HZ4.out.fit (by decide))).2 (frac_sizes HV3.out (HZ3.out.fit (by decide))).1 (frac_sizes HV3.out (HZ3.out.fit (by decide))).2).mono ?_
  rintro e w8 ⟨v, k, rfl, ha, hb⟩
  have hz : Sz 452 ((x + y) + z) := HZ4.out.add HZ3.out
  obtain ⟨hv, rfl⟩ := ans_fit (bin_fit ha HV4.out HV3.out (HZ4.out.fit (by decide)) (HZ3.out.fit (by decide))) (hz.fit (by decide))
  obtain ⟨b7, s7, c7, t7, hv1⟩ : ∃ b s c t, v = .agg #[.bool b, .string s, .bool c, .string t] := ⟨_, _, _, _, hv⟩
  subst hv1
  have HV7 := Lib.hid hv
  have HZ7 := Lib.hid hz
  clear hv hz
  have HF7 := Lib.hid ((HF6.out.on hb).push w8.heap.size #[.bool b7, .string s7, .bool c7, .string t7] 26 rfl)
  have HB7 := Lib.hid (below_alloc_ (HB6.out.trans (hb.mono HB6.out.size)) (.cells #[.bool b7, .string s7, .bool c7, .string t7] 26))
  clear ha hb HF6 HB6 hc4_0 hc4_1 hc4_2 hc4_3 hc3_0 hc3_1 hc3_2 hc3_3
  have hc1_0 := (HF7.out.get 6 rfl).cell 0 (.bool b1) rfl
  have hc1_1 := (HF7.out.get 6 rfl).cell 1 (.string s1) rfl
  have hc1_2 := (HF7.out.get 6 rfl).cell 2 (.bool c1) rfl
  have hc1_3 := (HF7.out.get 6 rfl).cell 3 (.string t1) rfl
  have hc6_0 := (HF7.out.get 1 rfl).cell 0 (.bool b6) rfl
  have hc6_1 := (HF7.out.get 1 rfl).cell 1 (.string s6) rfl
  have hc6_2 := (HF7.out.get 1 rfl).cell 2 (.bool c6) rfl
  have hc6_3 := (HF7.out.get 1 rfl).cell 3 (.string t6) rfl
  go_wp2_with fail
  refine (FAdd_any b1 c1 b6 c6 s1 t1 s6 t6 (frac_sizes HV1.out (HZ1.out.fit (by decide))).1 (frac_sizes HV1.out (HZ1.out.fit (by decide))).2 (frac_sizes HV6.out (HZ6.out.fit (by decide))).1 (frac_sizes HV6.out (HZ6.out.fit (by decide))).2).mono ?_
  rintro e w9 ⟨v, k, rfl, ha, hb⟩
  have hz : Sz 452 (x + (y + z)) := HZ1.out.add HZ6.out
  obtain ⟨hv, rfl⟩ := ans_fit (bin_fit ha HV1.out HV6.out (HZ1.out.fit (by decide)) (HZ6.out.fit (by decide))) (hz.fit (by decide))
  have hq : (x + (y + z)) = ((x + y) + z) := (Rat.add_assoc _ _ _).symm
  have hv1 : v = .agg #[.bool b7, .string s7, .bool c7, .string t7] := by rw [hv]; exact (congrArg fracV hq).trans HV7.out.symm
  subst hv1
  have HV8 := Lib.hid hv
  rw [hq] at HV8
  have HZ8 := Lib.hid hz
  rw [hq] at HZ8
  clear hv hz hq
  have HF8 := Lib.hid ((HF7.out.on hb).push w9.heap.size #[.bool b7, .string s7, .bool c7, .string t7] 26 rfl)
  have HB8 := Lib.hid (below_alloc_ (HB7.out.trans (hb.mono HB7.out.size)) (.cells #[.bool b7, .string s7, .bool c7, .string t7] 26))
  clear ha hb HF7 HB7 hc1_0 hc1_1 hc1_2 hc1_3 hc6_0 hc6_1 hc6_2 hc6_3
  have hc4_0 := (HF8.out.get 4 rfl).cell 0 (.bool b4) rfl
  have hc4_1 := (HF8.out.get 4 rfl).cell 1 (.string s4) rfl
  have hc4_2 := (HF8.out.get 4 rfl).cell 2 (.bool c4) rfl
  have hc4_3 := (HF8.out.get 4 rfl).cell 3 (.string t4) rfl
  have hc5_0 := (HF8.out.get 3 rfl).cell 0 (.bool b4) rfl
  have hc5_1 := (HF8.out.get 3 rfl).cell 1 (.string s4) rfl
  have hc5_2 := (HF8.out.get 3 rfl).cell 2 (.bool c4) rfl
  have hc5_3 := (HF8.out.get 3 rfl).cell 3 (.string t4) rfl
  have hc7_0 := (HF8.out.get 1 rfl).cell 0 (.bool b7) rfl
  have hc7_1 := (HF8.out.get 1 rfl).cell 1 (.string s7) rfl
  have hc7_2 := (HF8.out.get 1 rfl).cell 2 (.bool c7) rfl
  have hc7_3 := (HF8.out.get 1 rfl).cell 3 (.string t7) rfl
  have hc8_0 := (HF8.out.get 0 rfl).cell 0 (.bool b7) rfl
  have hc8_1 := (HF8.out.get 0 rfl).cell 1 (.string s7) rfl
  have hc8_2 := (HF8.out.get 0 rfl).cell 2 (.bool c7) rfl
  have hc8_3 := (HF8.out.get 0 rfl).cell 3 (.string t7) rfl
  have KEEP := trivial
  have hc1_0 := (HF8.out.get 7 rfl).cell 0 (.bool b1) rfl
  have hc1_1 := (HF8.out.get 7 rfl).cell 1 (.string s1) rfl
  have hc1_2 := (HF8.out.get 7 rfl).cell 2 (.bool c1) rfl
  have hc1_3 := (HF8.out.get 7 rfl).cell 3 (.string t1) rfl
  have hc2_0 := (HF8.out.get 6 rfl).cell 0 (.bool b2) rfl
  have hc2_1 := (HF8.out.get 6 rfl).cell 1 (.string s2) rfl
  have hc2_2 := (HF8.out.get 6 rfl).cell 2 (.bool c2) rfl
  have hc2_3 := (HF8.out.get 6 rfl).cell 3 (.string t2) rfl
  go_wp2_with fail
  refine (FMul_any b1 c1 b2 c2 s1 t1 s2 t2 (frac_sizes HV1.out (HZ1.out.fit (by decide))).1 (frac_sizes HV1.out (HZ1.out.fit (by decide))).2 (frac_sizes HV2.out (HZ2.out.fit (by decide))).1 (frac_sizes HV2.out (HZ2.out.fit (by decide))).2).mono ?_
  rintro e w10 ⟨v, k, rfl, ha, hb⟩
  have hz : Sz 300 (x * y) := HZ1.out.mul HZ2.out
  obtain ⟨hv, rfl⟩ := ans_fit (bin_fit ha HV1.out HV2.out (HZ1.out.fit (by decide)) (HZ2.out.fit (by decide))) (hz.fit (by decide))
  obtain ⟨b9, s9, c9, t9, hv1⟩ : ∃ b s c t, v = .agg #[.bool b, .string s, .bool c, .string t] := ⟨_, _, _, _, hv⟩
  subst hv1
  have HV9 := Lib.hid hv
  have HZ9 := Lib.hid hz
  clear hv hz
  have HF9 := Lib.hid ((HF8.out.on hb).push w10.heap.size #[.bool b9, .string s9, .bool c9, .string t9] 26 rfl)
  have HB9 := Lib.hid (below_alloc_ (HB8.out.trans (hb.mono HB8.out.size)) (.cells #[.bool b9, .string s9, .bool c9, .string t9] 26))
  clear ha hb HF8 HB8 hc1_0 hc1_1 hc1_2 hc1_3 hc2_0 hc2_1 hc2_2 hc2_3
  clear hc4_0 hc4_1 hc4_2 hc4_3 hc5_0 hc5_1 hc5_2 hc5_3 hc7_0 hc7_1 hc7_2 hc7_3 hc8_0 hc8_1 hc8_2 hc8_3
  have hc1_0 := (HF9.out.get 8 rfl).cell 0 (.bool b1) rfl
  have hc1_1 := (HF9.out.get 8 rfl).cell 1 (.string s1) rfl
  have hc1_2 := (HF9.out.get 8 rfl).cell 2 (.bool c1) rfl
  have hc1_3 := (HF9.out.get 8 rfl).cell 3 (.string t1) rfl
  have hc3_0 := (HF9.out.get 6 rfl).cell 0 (.bool b3) rfl
  have hc3_1 := (HF9.out.get 6 rfl).cell 1 (.string s3) rfl
  have hc3_2 := (HF9.out.get 6 rfl).cell 2 (.bool c3) rfl
  have hc3_3 := (HF9.out.get 6 rfl).cell 3 (.string t3) rfl
  go_wp2_with fail
  refine (FMul_any b1 c1 b3 c3 s1 t1 s3 t3 (frac_sizes HV1.out (HZ1.out.fit (by decide))).1 (frac_sizes HV1.out (HZ1.out.fit (by decide))).2 (frac_sizes HV3.out (HZ3.out.fit (by decide))).1 (frac_sizes HV3.out (HZ3.out.fit (by decide))).2).mono ?_
  rintro e w11 ⟨v, k, rfl, ha, hb⟩
  have hz : Sz 300 (x * z) := HZ1.out.mul HZ3.out
  obtain ⟨hv, rfl⟩ := ans_fit (bin_fit ha HV1.out HV3.out (HZ1.out.fit (by decide)) (HZ3.out.fit (by decide))) (hz.fit (by decide))
  obtain ⟨b10, s10, c10, t10, hv1⟩ : ∃ b s c t, v = .agg #[.bool b, .string s, .bool c, .string t] := ⟨_, _, _, _, hv⟩
  subst hv1
  have HV10 := Lib.hid hv
  have HZ10 := Lib.hid hz
  clear hv hz
  have HF10 := Lib.hid ((HF9.out.on hb).push w11.heap.size #[.bool b10, .string s10, .bool c10, .string t10] 26 rfl)
  have HB10 := Lib.hid (below_alloc_ (HB9.out.trans (hb.mono HB9.out.size)) (.cells #[.bool b10, .string s10, .bool c10, .string t10] 26))
  clear ha hb HF9 HB9 hc1_0 hc1_1 hc1_2 hc1_3 hc3_0 hc3_1 hc3_2 hc3_3
  have hc1_0 := (HF10.out.get 9 rfl).cell 0 (.bool b1) rfl
  have hc1_1 := (HF10.out.get 9 rfl).cell 1 (.string s1) rfl
  have hc1_2 := (HF10.out.get 9 rfl).cell 2 (.bool c1) rfl
  have hc1_3 := (HF10.out.get 9 rfl).cell 3 (.string t1) rfl
  have hc6_0 := (HF10.out.get 4 rfl).cell 0 (.bool b6) rfl
  have hc6_1 := (HF10.out.get 4 rfl).cell 1 (.string s6) rfl
  have hc6_2 := (HF10.out.get 4 rfl).cell 2 (.bool c6) rfl
  have hc6_3 := (HF10.out.get 4 rfl).cell 3 (.string t6) rfl
  go_wp2_with fail
  refine (FMul_any b1 c1 b6 c6 s1 t1 s6 t6 (frac_sizes HV1.out (HZ1.out.fit (by decide))).1 (frac_sizes HV1.out (HZ1.out.fit (by decide))).2 (frac_sizes HV6.out (HZ6.out.fit (by decide))).1 (frac_sizes HV6.out (HZ6.out.fit (by decide))).2).mono ?_
  rintro e w12 ⟨v, k, rfl, ha, hb⟩
  have hz : Sz 451 (x * (y + z)) := HZ1.out.mul HZ6.out
  obtain ⟨hv, rfl⟩ := ans_fit (bin_fit ha HV1.out HV6.out (HZ1.out.fit (by decide)) (HZ6.out.fit (by decide))) (hz.fit (by decide))
  obtain ⟨b11, s11, c11, t11, hv1⟩ : ∃ b s c t, v = .agg #[.bool b, .string s, .bool c, .string t] := ⟨_, _, _, _, hv⟩
  subst hv1
  have HV11 := Lib.hid hv
  have HZ11 := Lib.hid hz
  clear hv hz
  have HF11 := Lib.hid ((HF10.out.on hb).push w12.heap.size #[.bool b11, .string s11, .bool c11, .string t11] 26 rfl)
  have HB11 := Lib.hid (below_alloc_ (HB10.out.trans (hb.mono HB10.out.size)) (.cells #[.bool b11, .string s11, .bool c11, .string t11] 26))
  clear ha hb HF10 HB10 hc1_0 hc1_1 hc1_2 hc1_3 hc6_0 hc6_1 hc6_2 hc6_3
  have hc9_0 := (HF11.out.get 2 rfl).cell 0 (.bool b9) rfl
  have hc9_1 := (HF11.out.get 2 rfl).cell 1 (.string s9) rfl
  have hc9_2 := (HF11.out.get 2 rfl).cell 2 (.bool c9) rfl
  have hc9_3 := (HF11.out.get 2 rfl).cell 3 (.string t9) rfl
  have hc10_0 := (HF11.out.get 1 rfl).cell 0 (.bool b10) rfl
  have hc10_1 := (HF11.out.get 1 rfl).cell 1 (.string s10) rfl
  have hc10_2 := (HF11.out.get 1 rfl).cell 2 (.bool c10) rfl
  have hc10_3 := (HF11.out.get 1 rfl).cell 3 (.string t10) rfl
  go_wp2_with fail
  refine (FAdd_any b9 c9 b10 c10 s9 t9 s10 t10 (frac_sizes HV9.out (HZ9.out.fit (by decide))).1 (frac_sizes HV9.out (HZ9.out.fit (by decide))).2 (frac_sizes HV10.out (HZ10.out.fit (by decide))).1 (frac_sizes HV10.out (HZ10.out.fit (by decide))).2).mono ?_
  rintro e w13 ⟨v, k, rfl, ha, hb⟩
  have hz : Sz 601 ((x * y) + (x * z)) := HZ9.out.add HZ10.out
  obtain ⟨hv, rfl⟩ := ans_fit (bin_fit ha HV9.out HV10.out (HZ9.out.fit (by decide)) (HZ10.out.fit (by decide))) (hz.fit (by decide))
  have hq : ((x * y) + (x * z)) = (x * (y + z)) := (Rat.mul_add _ _ _).symm
  have hv1 : v = .agg #[.bool b11, .string s11, .bool c11, .string t11] := by rw [hv]; exact (congrArg fracV hq).trans HV11.out.symm
  subst hv1
  have HV12 := Lib.hid hv
  rw [hq] at HV12
  have HZ12 := Lib.hid hz
  rw [hq] at HZ12
  clear hv hz hq
  have HF12 := Lib.hid ((HF11.out.on hb).push w13.heap.size #[.bool b11, .string s11, .bool c11, .string t11] 26 rfl)
  have HB12 := Lib.hid (below_alloc_ (HB11.out.trans (hb.mono HB11.out.size)) (.cells #[.bool b11, .string s11, .bool c11, .string t11] 26))
  clear ha hb HF11 HB11 hc9_0 hc9_1 hc9_2 hc9_3 hc10_0 hc10_1 hc10_2 hc10_3
  have hc11_0 := (HF12.out.get 1 rfl).cell 0 (.bool b11) rfl
  have hc11_1 := (HF12.out.get 1 rfl).cell 1 (.string s11) rfl
  have hc11_2 := (HF12.out.get 1 rfl).cell 2 (.bool c11) rfl
  have hc11_3 := (HF12.out.get 1 rfl).cell 3 (.string t11) rfl
  have hc12_0 := (HF12.out.get 0 rfl).cell 0 (.bool b11) rfl
  have hc12_1 := (HF12.out.get 0 rfl).cell 1 (.string s11) rfl
  have hc12_2 := (HF12.out.get 0 rfl).cell 2 (.bool c11) rfl
  have hc12_3 := (HF12.out.get 0 rfl).cell 3 (.string t11) rfl
  go_wp2_with fail
  refine (same_any b11 c11 s11 t11).mono ?_
  rintro e w14 ⟨rfl, hb⟩
  have HF13 := Lib.hid (HF12.out.on hb)
  have HB13 := Lib.hid (HB12.out.trans (hb.mono HB12.out.size))
  clear hb HF12 HB12 hc11_0 hc11_1 hc11_2 hc11_3 hc12_0 hc12_1 hc12_2 hc12_3
  have hc4_0 := (HF13.out.get 8 rfl).cell 0 (.bool b4) rfl
  have hc4_1 := (HF13.out.get 8 rfl).cell 1 (.string s4) rfl
  have hc4_2 := (HF13.out.get 8 rfl).cell 2 (.bool c4) rfl
  have hc4_3 := (HF13.out.get 8 rfl).cell 3 (.string t4) rfl
  have hc2_0 := (HF13.out.get 10 rfl).cell 0 (.bool b2) rfl
  have hc2_1 := (HF13.out.get 10 rfl).cell 1 (.string s2) rfl
  have hc2_2 := (HF13.out.get 10 rfl).cell 2 (.bool c2) rfl
  have hc2_3 := (HF13.out.get 10 rfl).cell 3 (.string t2) rfl
  go_wp2_with fail
  refine (FSub_any b4 c4 b2 c2 s4 t4 s2 t2 (frac_sizes HV4.out (HZ4.out.fit (by decide))).1 (frac_sizes HV4.out (HZ4.out.fit (by decide))).2 (frac_sizes HV2.out (HZ2.out.fit (by decide))).1 (frac_sizes HV2.out (HZ2.out.fit (by decide))).2).mono ?_
  rintro e w15 ⟨v, k, rfl, ha, hb⟩
  have hz : Sz 452 ((x + y) - y) := HZ4.out.sub HZ2.out
  obtain ⟨hv, rfl⟩ := ans_fit (bin_fit ha HV4.out HV2.out (HZ4.out.fit (by decide)) (HZ2.out.fit (by decide))) (hz.fit (by decide))
  have hq : ((x + y) - y) = x := by grind
  have hv1 : v = .agg #[.bool b1, .string s1, .bool c1, .string t1] := by rw [hv]; exact (congrArg fracV hq).trans HV1.out.symm
  subst hv1
  have HV13 := Lib.hid hv
  rw [hq] at HV13
  have HZ13 := Lib.hid hz
  rw [hq] at HZ13
  clear hv hz hq
  have HF14 := Lib.hid ((HF13.out.on hb).push w15.heap.size #[.bool b1, .string s1, .bool c1, .string t1] 26 rfl)
  have HB14 := Lib.hid (below_alloc_ (HB13.out.trans (hb.mono HB13.out.size)) (.cells #[.bool b1, .string s1, .bool c1, .string t1] 26))
  clear ha hb HF13 HB13 hc4_0 hc4_1 hc4_2 hc4_3 hc2_0 hc2_1 hc2_2 hc2_3
  have hc13_0 := (HF14.out.get 0 rfl).cell 0 (.bool b1) rfl
  have hc13_1 := (HF14.out.get 0 rfl).cell 1 (.string s1) rfl
  have hc13_2 := (HF14.out.get 0 rfl).cell 2 (.bool c1) rfl
  have hc13_3 := (HF14.out.get 0 rfl).cell 3 (.string t1) rfl
  have hc1_0 := (HF14.out.get 12 rfl).cell 0 (.bool b1) rfl
  have hc1_1 := (HF14.out.get 12 rfl).cell 1 (.string s1) rfl
  have hc1_2 := (HF14.out.get 12 rfl).cell 2 (.bool c1) rfl
  have hc1_3 := (HF14.out.get 12 rfl).cell 3 (.string t1) rfl
  have hc2_0 := (HF14.out.get 11 rfl).cell 0 (.bool b2) rfl
  have hc2_1 := (HF14.out.get 11 rfl).cell 1 (.string s2) rfl
  have hc2_2 := (HF14.out.get 11 rfl).cell 2 (.bool c2) rfl
  have hc2_3 := (HF14.out.get 11 rfl).cell 3 (.string t2) rfl
  go_wp2_with fail
  refine (FSign_any b2 c2 s2 t2 (frac_sizes HV2.out (HZ2.out.fit (by decide))).1 (frac_sizes HV2.out (HZ2.out.fit (by decide))).2).mono ?_
  rintro e w16 ⟨k, rfl, hk, hb⟩
  have hk2 := sign_fit hk HV2.out (HZ2.out.fit (by decide))
  have HK := Lib.hid hk2
  have HF15 := Lib.hid (HF14.out.on hb)
  have HB15 := Lib.hid (HB14.out.trans (hb.mono HB14.out.size))
  clear hk hk2 hb HF14 HB14 hc13_0 hc13_1 hc13_2 hc13_3 hc1_0 hc1_1 hc1_2 hc1_3 hc2_0 hc2_1 hc2_2 hc2_3
  by_cases hk0 : k = 0
  · subst hk0
    have hc1_0 := (HF15.out.get 12 rfl).cell 0 (.bool b1) rfl
    have hc1_1 := (HF15.out.get 12 rfl).cell 1 (.string s1) rfl
    have hc1_2 := (HF15.out.get 12 rfl).cell 2 (.bool c1) rfl
    have hc1_3 := (HF15.out.get 12 rfl).cell 3 (.string t1) rfl
    have hc2_0 := (HF15.out.get 11 rfl).cell 0 (.bool b2) rfl
    have hc2_1 := (HF15.out.get 11 rfl).cell 1 (.string s2) rfl
    have hc2_2 := (HF15.out.get 11 rfl).cell 2 (.bool c2) rfl
    have hc2_3 := (HF15.out.get 11 rfl).cell 3 (.string t2) rfl
    go_wp2_with fail
    refine (FCmp_any b1 c1 b2 c2 s1 t1 s2 t2 (frac_sizes HV1.out (HZ1.out.fit (by decide))).1 (frac_sizes HV1.out (HZ1.out.fit (by decide))).2 (frac_sizes HV2.out (HZ2.out.fit (by decide))).1 (frac_sizes HV2.out (HZ2.out.fit (by decide))).2).mono ?_
    rintro e w17 ⟨m, k, rfl, ha, hb⟩
    have hk := cmp_fit ha HV1.out HV2.out (HZ1.out.fit (by decide)) (HZ2.out.fit (by decide))
    have HM := Lib.hid hk.1
    obtain rfl := hk.2
    have HF16 := Lib.hid (HF15.out.on hb)
    have HB16 := Lib.hid (HB15.out.trans (hb.mono HB15.out.size))
    clear ha hk hb HF15 HB15 hc1_0 hc1_1 hc1_2 hc1_3 hc2_0 hc2_1 hc2_2 hc2_3
    have hc7_0 := (HF16.out.get 6 rfl).cell 0 (.bool b7) rfl
    have hc7_1 := (HF16.out.get 6 rfl).cell 1 (.string s7) rfl
    have hc7_2 := (HF16.out.get 6 rfl).cell 2 (.bool c7) rfl
    have hc7_3 := (HF16.out.get 6 rfl).cell 3 (.string t7) rfl
    have hc6_0 := (HF16.out.get 7 rfl).cell 0 (.bool b6) rfl
    have hc6_1 := (HF16.out.get 7 rfl).cell 1 (.string s6) rfl
    have hc6_2 := (HF16.out.get 7 rfl).cell 2 (.bool c6) rfl
    have hc6_3 := (HF16.out.get 7 rfl).cell 3 (.string t6) rfl
    go_wp2_with fail
    refine (FCmp_any b7 c7 b6 c6 s7 t7 s6 t6 (frac_sizes HV7.out (HZ7.out.fit (by decide))).1 (frac_sizes HV7.out (HZ7.out.fit (by decide))).2 (frac_sizes HV6.out (HZ6.out.fit (by decide))).1 (frac_sizes HV6.out (HZ6.out.fit (by decide))).2).mono ?_
    rintro e w18 ⟨n, k, rfl, ha, hb⟩
    have hk := cmp_fit ha HV7.out HV6.out (HZ7.out.fit (by decide)) (HZ6.out.fit (by decide))
    have HN := Lib.hid hk.1
    obtain rfl := hk.2
    have HF17 := Lib.hid (HF16.out.on hb)
    have HB17 := Lib.hid (HB16.out.trans (hb.mono HB16.out.size))
    clear ha hk hb HF16 HB16 hc7_0 hc7_1 hc7_2 hc7_3 hc6_0 hc6_1 hc6_2 hc6_3
    have hc5_0 := (HF17.out.get 8 rfl).cell 0 (.bool b4) rfl
    have hc5_1 := (HF17.out.get 8 rfl).cell 1 (.string s4) rfl
    have hc5_2 := (HF17.out.get 8 rfl).cell 2 (.bool c4) rfl
    have hc5_3 := (HF17.out.get 8 rfl).cell 3 (.string t4) rfl
    have hc6_0 := (HF17.out.get 7 rfl).cell 0 (.bool b6) rfl
    have hc6_1 := (HF17.out.get 7 rfl).cell 1 (.string s6) rfl
    have hc6_2 := (HF17.out.get 7 rfl).cell 2 (.bool c6) rfl
    have hc6_3 := (HF17.out.get 7 rfl).cell 3 (.string t6) rfl
    go_wp2_with fail
    refine (FCmp_any b4 c4 b6 c6 s4 t4 s6 t6 (frac_sizes HV5.out (HZ5.out.fit (by decide))).1 (frac_sizes HV5.out (HZ5.out.fit (by decide))).2 (frac_sizes HV6.out (HZ6.out.fit (by decide))).1 (frac_sizes HV6.out (HZ6.out.fit (by decide))).2).mono ?_
    rintro e w19 ⟨nn, k, rfl, ha, hb⟩
    have hk := cmp_fit ha HV5.out HV6.out (HZ5.out.fit (by decide)) (HZ6.out.fit (by decide))
    have HNN := Lib.hid hk.1
    obtain rfl := hk.2
    have HF18 := Lib.hid (HF17.out.on hb)
    have HB18 := Lib.hid (HB17.out.trans (hb.mono HB17.out.size))
    clear ha hk hb HF17 HB17 hc5_0 hc5_1 hc5_2 hc5_3 hc6_0 hc6_1 hc6_2 hc6_3
    have hc1_0 := (HF18.out.get 12 rfl).cell 0 (.bool b1) rfl
    have hc1_1 := (HF18.out.get 12 rfl).cell 1 (.string s1) rfl
    have hc1_2 := (HF18.out.get 12 rfl).cell 2 (.bool c1) rfl
    have hc1_3 := (HF18.out.get 12 rfl).cell 3 (.string t1) rfl
    go_wp2_with fail
    refine (FSign_any b1 c1 s1 t1 (frac_sizes HV1.out (HZ1.out.fit (by decide))).1 (frac_sizes HV1.out (HZ1.out.fit (by decide))).2).mono ?_
    rintro e w20 ⟨k1, rfl, hk, hb⟩
    have hk2 : n = k1 := by rw [HN.out, sign_fit hk HV1.out (HZ1.out.fit (by decide))]; exact (congrArg (fun u => cmpQ u _) (Rat.add_assoc _ _ _)).trans (cmpQ_sign _ _)
    subst hk2
    have HF19 := Lib.hid (HF18.out.on hb)
    have HB19 := Lib.hid (HB18.out.trans (hb.mono HB18.out.size))
    clear hk hb HF18 HB18 hc1_0 hc1_1 hc1_2 hc1_3
    have hc1_0 := (HF19.out.get 12 rfl).cell 0 (.bool b1) rfl
    have hc1_1 := (HF19.out.get 12 rfl).cell 1 (.string s1) rfl
    have hc1_2 := (HF19.out.get 12 rfl).cell 2 (.bool c1) rfl
    have hc1_3 := (HF19.out.get 12 rfl).cell 3 (.string t1) rfl
    have hc3_0 := (HF19.out.get 10 rfl).cell 0 (.bool b3) rfl
    have hc3_1 := (HF19.out.get 10 rfl).cell 1 (.string s3) rfl
    have hc3_2 := (HF19.out.get 10 rfl).cell 2 (.bool c3) rfl
    have hc3_3 := (HF19.out.get 10 rfl).cell 3 (.string t3) rfl
    go_wp2_with fail
    refine (lcmp_any b1 c1 b3 c3 s1 t1 s3 t3 (frac_sizes HV1.out (HZ1.out.fit (by decide))).1 (frac_sizes HV1.out (HZ1.out.fit (by decide))).2 (frac_sizes HV3.out (HZ3.out.fit (by decide))).1 (frac_sizes HV3.out (HZ3.out.fit (by decide))).2).mono ?_
    rintro e w21 ⟨kz, k, rfl, ha, hb⟩
    have hk := cmp_fit ha HV1.out HV3.out (HZ1.out.fit (by decide)) (HZ3.out.fit (by decide))
    have HKZ := Lib.hid hk.1
    have HF20 := Lib.hid (HF19.out.on hb)
    have HB20 := Lib.hid (HB19.out.trans (hb.mono HB19.out.size))
    clear ha hk hb HF19 HB19 hc1_0 hc1_1 hc1_2 hc1_3 hc3_0 hc3_1 hc3_2 hc3_3
    have hkz : nn = kz := by rw [HNN.out, HKZ.out]; exact (congrArg (fun u => cmpQ u _) (Rat.add_comm _ _)).trans (cmpQ_shift _ _ _)
    subst hkz
    have hc2_0 := (HF20.out.get 11 rfl).cell 0 (.bool b2) rfl
    have hc2_1 := (HF20.out.get 11 rfl).cell 1 (.string s2) rfl
    have hc2_2 := (HF20.out.get 11 rfl).cell 2 (.bool c2) rfl
    have hc2_3 := (HF20.out.get 11 rfl).cell 3 (.string t2) rfl
    have hc1_0 := (HF20.out.get 12 rfl).cell 0 (.bool b1) rfl
    have hc1_1 := (HF20.out.get 12 rfl).cell 1 (.string s1) rfl
    have hc1_2 := (HF20.out.get 12 rfl).cell 2 (.bool c1) rfl
    have hc1_3 := (HF20.out.get 12 rfl).cell 3 (.string t1) rfl
    go_wp2_with fail
    refine (lcmp_any b2 c2 b1 c1 s2 t2 s1 t1 (frac_sizes HV2.out (HZ2.out.fit (by decide))).1 (frac_sizes HV2.out (HZ2.out.fit (by decide))).2 (frac_sizes HV1.out (HZ1.out.fit (by decide))).1 (frac_sizes HV1.out (HZ1.out.fit (by decide))).2).mono ?_
    rintro e w22 ⟨ky, k, rfl, ha, hb⟩
    have hk := cmp_fit ha HV2.out HV1.out (HZ2.out.fit (by decide)) (HZ1.out.fit (by decide))
    have HKY := Lib.hid hk.1
    have HF21 := Lib.hid (HF20.out.on hb)
    have HB21 := Lib.hid (HB20.out.trans (hb.mono HB20.out.size))
    clear ha hk hb HF20 HB20 hc2_0 hc2_1 hc2_2 hc2_3 hc1_0 hc1_1 hc1_2 hc1_3
    have hky : m = -ky := by rw [HM.out, HKY.out]; exact cmpQ_neg _ _
    have hkb : -1 ≤ ky ∧ ky ≤ 1 := by rw [HKY.out]; exact cmpQ_range _ _
    subst hky
    go_wp2_with fail
    refine known_any.mono ?_
    rintro e wk ⟨rfl, hb⟩
    have HBK := Lib.hid (HB21.out.trans (hb.mono HB21.out.size))
    clear hb
    go_wp2
    go_ret
    exact ⟨rfl, HBK.out⟩
  · have hkk : (k == 0) = false := by rw [beq_eq_false_iff_ne]; exact hk0
    have HY0 : Hid (y ≠ 0) := fun e => hk0 (by rw [HK.out, e]; rfl)
    clear hk0
    have hc9_0 := (HF15.out.get 4 rfl).cell 0 (.bool b9) rfl
    have hc9_1 := (HF15.out.get 4 rfl).cell 1 (.string s9) rfl
    have hc9_2 := (HF15.out.get 4 rfl).cell 2 (.bool c9) rfl
    have hc9_3 := (HF15.out.get 4 rfl).cell 3 (.string t9) rfl
    have hc2_0 := (HF15.out.get 11 rfl).cell 0 (.bool b2) rfl
    have hc2_1 := (HF15.out.get 11 rfl).cell 1 (.string s2) rfl
    have hc2_2 := (HF15.out.get 11 rfl).cell 2 (.bool c2) rfl
    have hc2_3 := (HF15.out.get 11 rfl).cell 3 (.string t2) rfl
    go_wp2_with fail
    refine (FDiv_any b9 c9 b2 c2 s9 t9 s2 t2 (frac_sizes HV9.out (HZ9.out.fit (by decide))).1 (frac_sizes HV9.out (HZ9.out.fit (by decide))).2 (frac_sizes HV2.out (HZ2.out.fit (by decide))).1 (frac_sizes HV2.out (HZ2.out.fit (by decide))).2).mono ?_
    rintro e w17 ⟨v, k, rfl, ha, hb⟩
    have hz : Sz 450 ((x * y) / y) := HZ9.out.div HZ2.out HY0.out
    obtain ⟨hv, rfl⟩ := ans_fit (div_fit ha HV9.out HV2.out (HZ9.out.fit (by decide)) (HZ2.out.fit (by decide)) HY0.out) (hz.fit (by decide))
    have hq : ((x * y) / y) = x := by rw [Rat.mul_div_cancel HY0.out]
    have hv1 : v = .agg #[.bool b1, .string s1, .bool c1, .string t1] := by rw [hv]; exact (congrArg fracV hq).trans HV1.out.symm
    subst hv1
    have HV14 := Lib.hid hv
    rw [hq] at HV14
    have HZ14 := Lib.hid hz
    rw [hq] at HZ14
    clear hv hz hq
    have HF16 := Lib.hid ((HF15.out.on hb).push w17.heap.size #[.bool b1, .string s1, .bool c1, .string t1] 26 rfl)
    have HB16 := Lib.hid (below_alloc_ (HB15.out.trans (hb.mono HB15.out.size)) (.cells #[.bool b1, .string s1, .bool c1, .string t1] 26))
    clear ha hb HF15 HB15 hc9_0 hc9_1 hc9_2 hc9_3 hc2_0 hc2_1 hc2_2 hc2_3
    have hc14_0 := (HF16.out.get 0 rfl).cell 0 (.bool b1) rfl
    have hc14_1 := (HF16.out.get 0 rfl).cell 1 (.string s1) rfl
    have hc14_2 := (HF16.out.get 0 rfl).cell 2 (.bool c1) rfl
    have hc14_3 := (HF16.out.get 0 rfl).cell 3 (.string t1) rfl
    have hc1_0 := (HF16.out.get 13 rfl).cell 0 (.bool b1) rfl
    have hc1_1 := (HF16.out.get 13 rfl).cell 1 (.string s1) rfl
    have hc1_2 := (HF16.out.get 13 rfl).cell 2 (.bool c1) rfl
    have hc1_3 := (HF16.out.get 13 rfl).cell 3 (.string t1) rfl
    have hc1_0 := (HF16.out.get 13 rfl).cell 0 (.bool b1) rfl
    have hc1_1 := (HF16.out.get 13 rfl).cell 1 (.string s1) rfl
    have hc1_2 := (HF16.out.get 13 rfl).cell 2 (.bool c1) rfl
    have hc1_3 := (HF16.out.get 13 rfl).cell 3 (.string t1) rfl
    have hc2_0 := (HF16.out.get 12 rfl).cell 0 (.bool b2) rfl
    have hc2_1 := (HF16.out.get 12 rfl).cell 1 (.string s2) rfl
    have hc2_2 := (HF16.out.get 12 rfl).cell 2 (.bool c2) rfl
    have hc2_3 := (HF16.out.get 12 rfl).cell 3 (.string t2) rfl
    go_wp2_with fail
    refine (FCmp_any b1 c1 b2 c2 s1 t1 s2 t2 (frac_sizes HV1.out (HZ1.out.fit (by decide))).1 (frac_sizes HV1.out (HZ1.out.fit (by decide))).2 (frac_sizes HV2.out (HZ2.out.fit (by decide))).1 (frac_sizes HV2.out (HZ2.out.fit (by decide))).2).mono ?_
    rintro e w18 ⟨m, k, rfl, ha, hb⟩
    have hk := cmp_fit ha HV1.out HV2.out (HZ1.out.fit (by decide)) (HZ2.out.fit (by decide))
    have HM := Lib.hid hk.1
    obtain rfl := hk.2
    have HF17 := Lib.hid (HF16.out.on hb)
    have HB17 := Lib.hid (HB16.out.trans (hb.mono HB16.out.size))
    clear ha hk hb HF16 HB16 hc1_0 hc1_1 hc1_2 hc1_3 hc2_0 hc2_1 hc2_2 hc2_3
    have hc7_0 := (HF17.out.get 7 rfl).cell 0 (.bool b7) rfl
    have hc7_1 := (HF17.out.get 7 rfl).cell 1 (.string s7) rfl
    have hc7_2 := (HF17.out.get 7 rfl).cell 2 (.bool c7) rfl
    have hc7_3 := (HF17.out.get 7 rfl).cell 3 (.string t7) rfl
    have hc6_0 := (HF17.out.get 8 rfl).cell 0 (.bool b6) rfl
    have hc6_1 := (HF17.out.get 8 rfl).cell 1 (.string s6) rfl
    have hc6_2 := (HF17.out.get 8 rfl).cell 2 (.bool c6) rfl
    have hc6_3 := (HF17.out.get 8 rfl).cell 3 (.string t6) rfl
    go_wp2_with fail
    refine (FCmp_any b7 c7 b6 c6 s7 t7 s6 t6 (frac_sizes HV7.out (HZ7.out.fit (by decide))).1 (frac_sizes HV7.out (HZ7.out.fit (by decide))).2 (frac_sizes HV6.out (HZ6.out.fit (by decide))).1 (frac_sizes HV6.out (HZ6.out.fit (by decide))).2).mono ?_
    rintro e w19 ⟨n, k, rfl, ha, hb⟩
    have hk := cmp_fit ha HV7.out HV6.out (HZ7.out.fit (by decide)) (HZ6.out.fit (by decide))
    have HN := Lib.hid hk.1
    obtain rfl := hk.2
    have HF18 := Lib.hid (HF17.out.on hb)
    have HB18 := Lib.hid (HB17.out.trans (hb.mono HB17.out.size))
    clear ha hk hb HF17 HB17 hc7_0 hc7_1 hc7_2 hc7_3 hc6_0 hc6_1 hc6_2 hc6_3
    have hc5_0 := (HF18.out.get 9 rfl).cell 0 (.bool b4) rfl
    have hc5_1 := (HF18.out.get 9 rfl).cell 1 (.string s4) rfl
    have hc5_2 := (HF18.out.get 9 rfl).cell 2 (.bool c4) rfl
    have hc5_3 := (HF18.out.get 9 rfl).cell 3 (.string t4) rfl
    have hc6_0 := (HF18.out.get 8 rfl).cell 0 (.bool b6) rfl
    have hc6_1 := (HF18.out.get 8 rfl).cell 1 (.string s6) rfl
    have hc6_2 := (HF18.out.get 8 rfl).cell 2 (.bool c6) rfl
    have hc6_3 := (HF18.out.get 8 rfl).cell 3 (.string t6) rfl
    go_wp2_with fail
    refine (FCmp_any b4 c4 b6 c6 s4 t4 s6 t6 (frac_sizes HV5.out (HZ5.out.fit (by decide))).1 (frac_sizes HV5.out (HZ5.out.fit (by decide))).2 (frac_sizes HV6.out (HZ6.out.fit (by decide))).1 (frac_sizes HV6.out (HZ6.out.fit (by decide))).2).mono ?_
    rintro e w20 ⟨nn, k, rfl, ha, hb⟩
    have hk := cmp_fit ha HV5.out HV6.out (HZ5.out.fit (by decide)) (HZ6.out.fit (by decide))
    have HNN := Lib.hid hk.1
    obtain rfl := hk.2
    have HF19 := Lib.hid (HF18.out.on hb)
    have HB19 := Lib.hid (HB18.out.trans (hb.mono HB18.out.size))
    clear ha hk hb HF18 HB18 hc5_0 hc5_1 hc5_2 hc5_3 hc6_0 hc6_1 hc6_2 hc6_3
    have hc1_0 := (HF19.out.get 13 rfl).cell 0 (.bool b1) rfl
    have hc1_1 := (HF19.out.get 13 rfl).cell 1 (.string s1) rfl
    have hc1_2 := (HF19.out.get 13 rfl).cell 2 (.bool c1) rfl
    have hc1_3 := (HF19.out.get 13 rfl).cell 3 (.string t1) rfl
    go_wp2_with fail
    refine (FSign_any b1 c1 s1 t1 (frac_sizes HV1.out (HZ1.out.fit (by decide))).1 (frac_sizes HV1.out (HZ1.out.fit (by decide))).2).mono ?_
    rintro e w21 ⟨k1, rfl, hk, hb⟩
    have hk2 : n = k1 := by rw [HN.out, sign_fit hk HV1.out (HZ1.out.fit (by decide))]; exact (congrArg (fun u => cmpQ u _) (Rat.add_assoc _ _ _)).trans (cmpQ_sign _ _)
    subst hk2
    have HF20 := Lib.hid (HF19.out.on hb)
    have HB20 := Lib.hid (HB19.out.trans (hb.mono HB19.out.size))
    clear hk hb HF19 HB19 hc1_0 hc1_1 hc1_2 hc1_3
    have hc1_0 := (HF20.out.get 13 rfl).cell 0 (.bool b1) rfl
    have hc1_1 := (HF20.out.get 13 rfl).cell 1 (.string s1) rfl
    have hc1_2 := (HF20.out.get 13 rfl).cell 2 (.bool c1) rfl
    have hc1_3 := (HF20.out.get 13 rfl).cell 3 (.string t1) rfl
    have hc3_0 := (HF20.out.get 11 rfl).cell 0 (.bool b3) rfl
    have hc3_1 := (HF20.out.get 11 rfl).cell 1 (.string s3) rfl
    have hc3_2 := (HF20.out.get 11 rfl).cell 2 (.bool c3) rfl
    have hc3_3 := (HF20.out.get 11 rfl).cell 3 (.string t3) rfl
    go_wp2_with fail
    refine (lcmp_any b1 c1 b3 c3 s1 t1 s3 t3 (frac_sizes HV1.out (HZ1.out.fit (by decide))).1 (frac_sizes HV1.out (HZ1.out.fit (by decide))).2 (frac_sizes HV3.out (HZ3.out.fit (by decide))).1 (frac_sizes HV3.out (HZ3.out.fit (by decide))).2).mono ?_
    rintro e w22 ⟨kz, k, rfl, ha, hb⟩
    have hk := cmp_fit ha HV1.out HV3.out (HZ1.out.fit (by decide)) (HZ3.out.fit (by decide))
    have HKZ := Lib.hid hk.1
    have HF21 := Lib.hid (HF20.out.on hb)
    have HB21 := Lib.hid (HB20.out.trans (hb.mono HB20.out.size))
    clear ha hk hb HF20 HB20 hc1_0 hc1_1 hc1_2 hc1_3 hc3_0 hc3_1 hc3_2 hc3_3
    have hkz : nn = kz := by rw [HNN.out, HKZ.out]; exact (congrArg (fun u => cmpQ u _) (Rat.add_comm _ _)).trans (cmpQ_shift _ _ _)
    subst hkz
    have hc2_0 := (HF21.out.get 12 rfl).cell 0 (.bool b2) rfl
    have hc2_1 := (HF21.out.get 12 rfl).cell 1 (.string s2) rfl
    have hc2_2 := (HF21.out.get 12 rfl).cell 2 (.bool c2) rfl
    have hc2_3 := (HF21.out.get 12 rfl).cell 3 (.string t2) rfl
    have hc1_0 := (HF21.out.get 13 rfl).cell 0 (.bool b1) rfl
    have hc1_1 := (HF21.out.get 13 rfl).cell 1 (.string s1) rfl
    have hc1_2 := (HF21.out.get 13 rfl).cell 2 (.bool c1) rfl
    have hc1_3 := (HF21.out.get 13 rfl).cell 3 (.string t1) rfl
    go_wp2_with fail
    refine (lcmp_any b2 c2 b1 c1 s2 t2 s1 t1 (frac_sizes HV2.out (HZ2.out.fit (by decide))).1 (frac_sizes HV2.out (HZ2.out.fit (by decide))).2 (frac_sizes HV1.out (HZ1.out.fit (by decide))).1 (frac_sizes HV1.out (HZ1.out.fit (by decide))).2).mono ?_
    rintro e w23 ⟨ky, k, rfl, ha, hb⟩
    have hk := cmp_fit ha HV2.out HV1.out (HZ2.out.fit (by decide)) (HZ1.out.fit (by decide))
    have HKY := Lib.hid hk.1
    have HF22 := Lib.hid (HF21.out.on hb)
    have HB22 := Lib.hid (HB21.out.trans (hb.mono HB21.out.size))
    clear ha hk hb HF21 HB21 hc2_0 hc2_1 hc2_2 hc2_3 hc1_0 hc1_1 hc1_2 hc1_3
    have hky : m = -ky := by rw [HM.out, HKY.out]; exact cmpQ_neg _ _
    have hkb : -1 ≤ ky ∧ ky ≤ 1 := by rw [HKY.out]; exact cmpQ_range _ _
    subst hky
    go_wp2_with fail
    refine known_any.mono ?_
    rintro e wk ⟨rfl, hb⟩
    have HBK := Lib.hid (HB22.out.trans (hb.mono HB22.out.size))
    clear hb
    go_wp2
    go_ret
    exact ⟨rfl, HBK.out⟩
end Go.Proofs.Ytaenedjanckaiaa
