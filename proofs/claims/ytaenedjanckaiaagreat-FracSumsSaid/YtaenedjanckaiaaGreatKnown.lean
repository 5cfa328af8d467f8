/- The statements' helper of layer 3: known. -/
import Derived.Test.YtaenedjanckaiaaGreatTxt
import Derived.Test.YtaenedjanckaiaaGreatRefB
namespace Go.Proofs.YtaenedjanckaiaaGreat
set_option linter.unnecessarySimpa false
set_option linter.unusedVariables false
set_option linter.unusedSimpArgs false
open Go.RowKit

theorem ans_fit {q : Rat} {v : Value} {k : Int} (h : Ans q v k) (hf : Fit q) : v = fracV q ∧ k = 0 := by
  rcases h with ⟨_, h1, h2⟩ | ⟨h1, _⟩
  · exact ⟨h1, h2⟩
  · exact absurd hf h1
theorem fit_of {n : Int} {d : Nat} {q : Rat} (h1 : q.num = n) (h2 : q.den = d) (h3 : n.natAbs < 256) (h4 : d < 256) : Fit q := by
  refine ⟨?_, ?_⟩
  · rw [h1]; exact Nat.le_trans (mag_size_le.2 (show n.natAbs < 256 ^ 1 by omega)) (by decide)
  · rw [h2]; exact Nat.le_trans (mag_size_le.2 (show d < 256 ^ 1 by omega)) (by decide)
theorem half_num : (Rat.divInt 1 2).num = 1 := by rfl
theorem half_den : (Rat.divInt 1 2).den = 2 := by rfl
theorem third_num : (Rat.divInt 2 (-6)).num = -1 := by rfl
theorem third_den : (Rat.divInt 2 (-6)).den = 3 := by rfl
theorem sixth_sum : Rat.divInt 1 2 + Rat.divInt 2 (-6) = Rat.divInt 1 6 := by
  rw [Rat.divInt_add_divInt _ _ (by decide) (by decide)]
  rfl
theorem sixth_num : (Rat.divInt 1 2 + Rat.divInt 2 (-6)).num = 1 := by rw [sixth_sum]; rfl
theorem sixth_den : (Rat.divInt 1 2 + Rat.divInt 2 (-6)).den = 6 := by rw [sixth_sum]; rfl
theorem sixth_text : textQ (Rat.divInt 1 2 + Rat.divInt 2 (-6)) = ⟨#[49, 47, 54]⟩ := by
  have e1 : dd 1 = [49] := by rw [dd_pos 1 (by decide), show 1 / 10 = 0 from rfl, dd_zero]
  have e6 : dd 6 = [54] := by rw [dd_pos 6 (by decide), show 6 / 10 = 0 from rfl, dd_zero]
  unfold textQ
  rw [sixth_num, sixth_den, if_neg (by decide)]
  unfold textN txt
  rw [if_neg (by decide), if_neg (by decide), if_neg (by decide), if_neg (by decide), show (1 : Int).natAbs = 1 from rfl, show ((6 : Nat) : Int).natAbs = 6 from rfl, e1, e6]
  rfl
theorem near_half : nearQ (Rat.divInt 1 2) = 0 := by
  have h1 : flQ (Rat.divInt 1 2 + Rat.divInt 1 2) = 1 := by
    rw [Rat.divInt_add_divInt _ _ (by decide) (by decide)]
    rfl
  have h2 : ((1 : Int) : Rat) - Rat.divInt 1 2 = Rat.divInt 1 2 := by
    rw [show ((1 : Int) : Rat) = Rat.divInt 1 1 from rfl, Rat.divInt_sub_divInt _ _ (by decide) (by decide)]
    rfl
  unfold nearQ
  rw [h1, if_pos ⟨h2, by rfl⟩]
  rfl

theorem frac_sizes {p c : Bool} {s t : ByteArray} {q : Rat} (h : (Value.agg #[.bool p, .string s, .bool c, .string t]) = fracV q) (hf : Fit q) : s.size ≤ maxLen ∧ t.size ≤ maxLen := by
  obtain ⟨_, rfl, _, rfl⟩ := agg4 h
  exact ⟨Nat.le_trans hf.1 (by decide), Nat.le_trans hf.2 (by decide)⟩
theorem small_fit {n m : Int} {v : Value} {k : Int} (h : SmallAns n m v k) (h0 : m ≠ 0) (hf : Fit (Rat.divInt n m)) : v = fracV (Rat.divInt n m) ∧ k = 0 := by
  rcases h with ⟨h1, _⟩ | ⟨_, h1⟩
  · exact absurd h1 h0
  · exact ans_fit h1 hf
theorem bin_fit {fn : Rat → Rat → Rat} {va vb v : Value} {k : Int} {x y : Rat} (h : BinAns fn va vb v k) (ha : va = fracV x) (hb : vb = fracV y) (hx : Fit x) (hy : Fit y) : Ans (fn x y) v k := by
  rcases h with ⟨x', y', _, _, h1, h2, h3⟩ | ⟨h1, _⟩
  · rw [ha] at h1; rw [hb] at h2
    rw [fracV_inj h1, fracV_inj h2]
    exact h3
  · rcases h1 with h1 | h1
    · exact absurd ⟨x, hx, ha⟩ h1
    · exact absurd ⟨y, hy, hb⟩ h1
theorem fit_half : Fit (Rat.divInt 1 2) := fit_of half_num half_den (by decide) (by decide)
theorem fit_third : Fit (Rat.divInt 2 (-6)) := fit_of third_num third_den (by decide) (by decide)
theorem fit_sixth : Fit (Rat.divInt 1 2 + Rat.divInt 2 (-6)) := fit_of sixth_num sixth_den (by decide) (by decide)
theorem yielded_of {ops : Array Oper} {t : Array Value} {j d : Nat} {b : Bool} {o : Oper} (ho : ops[j]? = some o) (hd : o.dst = some d) (h : t.getD d undef = .bool b) : yielded ops t j = some b := by
  have h1 : t[d]? = some (.bool b) := by
    rw [Array.getD_eq_getD_getElem?] at h
    cases ht : t[d]? with
    | none => rw [ht] at h; simp [undef] at h
    | some x => rw [ht] at h; exact congrArg some h
  unfold yielded
  rw [ho, Option.bind_some, hd, Option.bind_some, h1]
theorem wanted_of {ops : Array Oper} {t : Array Value} {j d : Nat} {b : Bool} {o o' : Oper} (hg : o'.guard = some (j, b)) (ho : ops[j]? = some o) (hd : o.dst = some d) (h : t.getD d undef = .bool b) : Region.wanted o' (yielded ops t) = true := by
  unfold Region.wanted
  rw [hg]
  simp [yielded_of ho hd h]
theorem below_alloc_ {w0 w : World} (h : Below w0.heap.size w0 w) (o : Obj) : Below w0.heap.size w0 (w.alloc o) := h.trans ((below_new w o).mono h.size)
set_option maxHeartbeats 3200000 in
set_option maxRecDepth 100000 in
theorem known_any {w0 : World} : Calls Tryz.prog 8 #[] w0 fun e w' => e = .returned (.bool true) ∧ Below w0.heap.size w0 w' := by
  go_enter Tryz.func8, Tryz.ntmps8
  go_wp2_with fail
  refine (Small_any (n := 1) (m := 2) (by decide) (by decide)).mono ?_
  rintro e w1 ⟨v, k, rfl, ha, hb⟩
  obtain ⟨hv, rfl⟩ := small_fit ha (by decide) fit_half
  obtain ⟨p1, s1, c1, t1, hv1⟩ : ∃ p1 s1 c1 t1, v = .agg #[.bool p1, .string s1, .bool c1, .string t1] := ⟨_, _, _, _, hv⟩
  subst hv1
  have HV1 := Lib.hid hv
  have HB1 := Lib.hid hb
  clear ha hv hb
  have HX1 := Lib.hid (BoxAt.new w1 #[.bool p1, .string s1, .bool c1, .string t1] 25)
  have HB1' := Lib.hid (below_alloc_ HB1.out (.cells #[.bool p1, .string s1, .bool c1, .string t1] 25))
  go_wp2_with fail
  refine (Small_any (n := 2) (m := -6) (by decide) (by decide)).mono ?_
  rintro e w2 ⟨v, k, rfl, ha, hb⟩
  obtain ⟨hv, rfl⟩ := small_fit ha (by decide) fit_third
  obtain ⟨p2, s2, c2, t2, hv1⟩ : ∃ p1 s1 c1 t1, v = .agg #[.bool p1, .string s1, .bool c1, .string t1] := ⟨_, _, _, _, hv⟩
  subst hv1
  have HV2 := Lib.hid hv
  have HX2 := Lib.hid ((HX1.out.on hb).on (below_new w2 (.cells #[.bool p2, .string s2, .bool c2, .string t2] 25)))
  have HB2 := Lib.hid (below_alloc_ (HB1'.out.trans (hb.mono HB1'.out.size)) (.cells #[.bool p2, .string s2, .bool c2, .string t2] 25))
  clear ha hv hb
  have hc0 := HX2.out.cell 0 (.bool p1) rfl
  have hc1 := HX2.out.cell 1 (.string s1) rfl
  have hc2 := HX2.out.cell 2 (.bool c1) rfl
  have hc3 := HX2.out.cell 3 (.string t1) rfl
  go_wp2_with fail
  refine (FAdd_any p1 c1 p2 c2 s1 t1 s2 t2 (frac_sizes HV1.out fit_half).1 (frac_sizes HV1.out fit_half).2 (frac_sizes HV2.out fit_third).1 (frac_sizes HV2.out fit_third).2).mono ?_
  rintro e w3 ⟨v, k, rfl, ha, hb⟩
  obtain ⟨hv, rfl⟩ := ans_fit (bin_fit ha HV1.out HV2.out fit_half fit_third) fit_sixth
  obtain ⟨p3, s3, c3, t3, hv1⟩ : ∃ p1 s1 c1 t1, v = .agg #[.bool p1, .string s1, .bool c1, .string t1] := ⟨_, _, _, _, hv⟩
  subst hv1
  have HV3 := Lib.hid hv
  have HX3 := Lib.hid ((HX2.out.on hb).on (below_new w3 (.cells #[.bool p3, .string s3, .bool c3, .string t3] 25)))
  have HB3 := Lib.hid (below_alloc_ (HB2.out.trans (hb.mono HB2.out.size)) (.cells #[.bool p3, .string s3, .bool c3, .string t3] 25))
  clear ha hv hb hc0 hc1 hc2 hc3
  go_wp2_with fail
  refine (FText_any p3 c3 s3 t3 (frac_sizes HV3.out fit_sixth).1 (frac_sizes HV3.out fit_sixth).2).mono ?_
  rintro e w4 ⟨u, k, rfl, ha, hb⟩
  have hu : u = ⟨#[49, 47, 54]⟩ ∧ k = 0 := by
    rcases ha with ⟨x, _, h1, h2, h3⟩ | ⟨h1, _⟩
    · have e := fracV_inj (HV3.out.symm.trans h1)
      rw [h2, ← e]
      exact ⟨sixth_text, h3⟩
    · exact absurd ⟨_, fit_sixth, HV3.out⟩ h1
  obtain ⟨rfl, rfl⟩ := hu
  have HX4 := Lib.hid (HX3.out.on hb)
  have HB4 := Lib.hid (HB3.out.trans (hb.mono HB3.out.size))
  clear ha hb
  have hc0 := HX4.out.cell 0 (.bool p1) rfl
  have hc1 := HX4.out.cell 1 (.string s1) rfl
  have hc2 := HX4.out.cell 2 (.bool c1) rfl
  have hc3 := HX4.out.cell 3 (.string t1) rfl
  go_wp2_with fail
  refine (Nearest_any p1 c1 s1 t1 (frac_sizes HV1.out fit_half).1 (frac_sizes HV1.out fit_half).2).mono ?_
  rintro e w5 ⟨v, k, rfl, ha, hb⟩
  have hv : v = .agg #[.bool false, .string ⟨#[]⟩] ∧ k = 0 := by
    rcases ha with ⟨x, _, h1, h2, h3⟩ | ⟨h1, _⟩
    · have e := fracV_inj (HV1.out.symm.trans h1)
      rw [h2, ← e, near_half]
      exact ⟨wholeV_sg0 (neg := false), h3⟩
    · exact absurd ⟨_, fit_half, HV1.out⟩ h1
  obtain ⟨rfl, rfl⟩ := hv
  have HB5 := Lib.hid (HB4.out.trans (hb.mono HB4.out.size))
  have HX5 := Lib.hid (BoxAt.new w5 #[.bool false, .string ⟨#[]⟩] 23)
  clear ha hb hc0 hc1 hc2 hc3
  have HB6 := Lib.hid (below_alloc_ HB5.out (.cells #[.bool false, .string ⟨#[]⟩] 23))
  clear HX1 HX2 HX3 HX4 HB1 HB1' HB2 HB3 HB4 HB5 HV1 HV2 HV3
  have hc0 := HX5.out.cell 0 (.bool false) rfl
  have hc1 := HX5.out.cell 1 (.string ⟨#[]⟩) rfl
  go_wp2
  generalize hW : w5.alloc (.cells #[.bool false, .string ⟨#[]⟩] 23) = w6 at HX5 HB6 hc0 hc1 ⊢
  generalize hG : w5.heap.size = g at HX5 hc0 hc1 ⊢
  clear hW hG
  refine wp_region_acts 27 (fun w' => Below w6.heap.size w6 w') (fun w w' => Below w.heap.size w w') (fun i w v => match i with
      | 0 => v = .int .i64 0
      | 1 => v = .bool true
      | 2 => v = .bool true
      | 3 => v = .int .i64 0
      | 4 => v = .bool true
      | 5 => v = .bool true
      | 6 => v = .bool true
      | 7 => v = .int .i64 0
      | 8 => v = .bool true
      | 9 => v = .bool true
      | 10 => v = .bool true
      | 11 => v = .string ⟨#[49, 47, 54]⟩
      | 12 => v = .bool true
      | 13 => v = .bool true
      | 14 => v = .bool true
      | 15 => v = .int .i64 0
      | 16 => v = .bool true
      | 17 => v = .bool true
      | 18 => v = .bool true
      | 19 => v = .agg #[.bool false, .string ⟨#[]⟩]
      | 20 => v = .agg #[.bool false, .string ⟨#[]⟩]
      | 21 => v = .bool true
      | 22 => v = .bool true
      | 23 => v = .bool true
      | 24 => v = .int .i64 0
      | 25 => v = .bool true
      | _ => v = .bool true) (by kernel_rfl) (by kernel_rfl) (by kernel_rfl) ((Below.refl _ _).drew) (fun _ _ => (Below.refl _ _)) ?_ ⟨?_, ?_, ?_, ?_, ?_, ?_, ?_, ?_, ?_, ?_, ?_, ?_, ?_, ?_, ?_, ?_, ?_, ?_, ?_, ?_, ?_, ?_, ?_, ?_, ?_, ?_, ?_, trivial⟩ ?_
  · intro i w1 w2 v hC hC2 hE hV
    match i with
    | 0 => exact hV
    | 1 => exact hV
    | 2 => exact hV
    | 3 => exact hV
    | 4 => exact hV
    | 5 => exact hV
    | 6 => exact hV
    | 7 => exact hV
    | 8 => exact hV
    | 9 => exact hV
    | 10 => exact hV
    | 11 => exact hV
    | 12 => exact hV
    | 13 => exact hV
    | 14 => exact hV
    | 15 => exact hV
    | 16 => exact hV
    | 17 => exact hV
    | 18 => exact hV
    | 19 => exact hV
    | 20 => exact hV
    | 21 => exact hV
    | 22 => exact hV
    | 23 => exact hV
    | 24 => exact hV
    | 25 => exact hV
    | _ + 26 => exact hV
  · intro a' w' hag hC hd K hK
    have e2 : a'.tmps.getD 2 undef = .int .i64 0 := hag 2 rfl
    go_step
    exact hK _ _ hC ((Below.refl _ _)) rfl
  · intro a' w' hag hC hd K hK
    have e35 : a'.tmps.getD 35 undef = .int .i64 0 := hd.1
    go_step
    exact hK _ _ hC ((Below.refl _ _)) rfl
  · intro a' w' hag hC hd K hK
    have e36 : a'.tmps.getD 36 undef = .bool true := hd.1
    go_step
    exact hK _ _ hC ((Below.refl _ _)) rfl
  · intro a' w' hag hC hd
    refine ⟨fun _ => ?_, fun hw => absurd (wanted_of (j := 2) (d := 37) rfl rfl rfl hd.1) (by rw [hw]; decide)⟩
    intro K hK
    have e4 : a'.tmps.getD 4 undef = .int .i64 0 := hag 4 rfl
    go_step
    exact hK _ _ hC ((Below.refl _ _)) rfl
  · intro a' w' hag hC hd
    refine ⟨fun _ => ?_, fun hw => absurd (wanted_of (j := 2) (d := 37) rfl rfl rfl hd.2.1) (by rw [hw]; decide)⟩
    intro K hK
    have e38 : a'.tmps.getD 38 undef = .int .i64 0 := hd.1
    go_step
    exact hK _ _ hC ((Below.refl _ _)) rfl
  · intro a' w' hag hC hd K hK
    have e37 : a'.tmps.getD 37 undef = .bool true := hd.1
    have e39 : a'.tmps.getD 39 undef = .bool true := hd.2.1
    go_step
    exact hK _ _ hC ((Below.refl _ _)) rfl
  · intro a' w' hag hC hd K hK
    have e40 : a'.tmps.getD 40 undef = .bool true := hd.1
    go_step
    exact hK _ _ hC ((Below.refl _ _)) rfl
  · intro a' w' hag hC hd
    refine ⟨fun _ => ?_, fun hw => absurd (wanted_of (j := 6) (d := 41) rfl rfl rfl hd.1) (by rw [hw]; decide)⟩
    intro K hK
    have e6 : a'.tmps.getD 6 undef = .int .i64 0 := hag 6 rfl
    go_step
    exact hK _ _ hC ((Below.refl _ _)) rfl
  · intro a' w' hag hC hd
    refine ⟨fun _ => ?_, fun hw => absurd (wanted_of (j := 6) (d := 41) rfl rfl rfl hd.2.1) (by rw [hw]; decide)⟩
    intro K hK
    have e42 : a'.tmps.getD 42 undef = .int .i64 0 := hd.1
    go_step
    exact hK _ _ hC ((Below.refl _ _)) rfl
  · intro a' w' hag hC hd K hK
    have e41 : a'.tmps.getD 41 undef = .bool true := hd.1
    have e43 : a'.tmps.getD 43 undef = .bool true := hd.2.1
    go_step
    exact hK _ _ hC ((Below.refl _ _)) rfl
  · intro a' w' hag hC hd K hK
    have e44 : a'.tmps.getD 44 undef = .bool true := hd.1
    go_step
    exact hK _ _ hC ((Below.refl _ _)) rfl
  · intro a' w' hag hC hd
    refine ⟨fun _ => ?_, fun hw => absurd (wanted_of (j := 10) (d := 45) rfl rfl rfl hd.1) (by rw [hw]; decide)⟩
    intro K hK
    have e7 : a'.tmps.getD 7 undef = .string ⟨#[49, 47, 54]⟩ := hag 7 rfl
    go_step
    exact hK _ _ hC ((Below.refl _ _)) rfl
  · intro a' w' hag hC hd
    refine ⟨fun _ => ?_, fun hw => absurd (wanted_of (j := 10) (d := 45) rfl rfl rfl hd.2.1) (by rw [hw]; decide)⟩
    intro K hK
    have e46 : a'.tmps.getD 46 undef = .string ⟨#[49, 47, 54]⟩ := hd.1
    go_step
    exact hK _ _ hC ((Below.refl _ _)) rfl
  · intro a' w' hag hC hd K hK
    have e45 : a'.tmps.getD 45 undef = .bool true := hd.1
    have e47 : a'.tmps.getD 47 undef = .bool true := hd.2.1
    go_step
    exact hK _ _ hC ((Below.refl _ _)) rfl
  · intro a' w' hag hC hd K hK
    have e48 : a'.tmps.getD 48 undef = .bool true := hd.1
    go_step
    exact hK _ _ hC ((Below.refl _ _)) rfl
  · intro a' w' hag hC hd
    refine ⟨fun _ => ?_, fun hw => absurd (wanted_of (j := 14) (d := 49) rfl rfl rfl hd.1) (by rw [hw]; decide)⟩
    intro K hK
    have e8 : a'.tmps.getD 8 undef = .int .i64 0 := hag 8 rfl
    go_step
    exact hK _ _ hC ((Below.refl _ _)) rfl
  · intro a' w' hag hC hd
    refine ⟨fun _ => ?_, fun hw => absurd (wanted_of (j := 14) (d := 49) rfl rfl rfl hd.2.1) (by rw [hw]; decide)⟩
    intro K hK
    have e50 : a'.tmps.getD 50 undef = .int .i64 0 := hd.1
    go_step
    exact hK _ _ hC ((Below.refl _ _)) rfl
  · intro a' w' hag hC hd K hK
    have e49 : a'.tmps.getD 49 undef = .bool true := hd.1
    have e51 : a'.tmps.getD 51 undef = .bool true := hd.2.1
    go_step
    exact hK _ _ hC ((Below.refl _ _)) rfl
  · intro a' w' hag hC hd K hK
    have e52 : a'.tmps.getD 52 undef = .bool true := hd.1
    go_step
    exact hK _ _ hC ((Below.refl _ _)) rfl
  · intro a' w' hag hC hd
    refine ⟨fun _ => ?_, fun hw => absurd (wanted_of (j := 18) (d := 53) rfl rfl rfl hd.1) (by rw [hw]; decide)⟩
    intro K hK
    have e9 : a'.tmps.getD 9 undef = .pointer (some ⟨g, 0, none⟩) := hag 9 rfl
    have hc0 := (BoxAt.on (w' := w') HX5.out hC).cell 0 (.bool false) rfl
    have hc1 := (BoxAt.on (w' := w') HX5.out hC).cell 1 (.string ⟨#[]⟩) rfl
    have HK := Lib.hid (hK (.agg #[.bool false, .string ⟨#[]⟩]) _ hC (Below.refl _ _) rfl)
    clear hK hC
    go_step
    exact HK.out
  · intro a' w' hag hC hd
    refine ⟨fun _ => ?_, fun hw => absurd (wanted_of (j := 18) (d := 53) rfl rfl rfl hd.1) (by rw [hw]; decide)⟩
    intro K hK
    go_step
    refine (rof_any (n := 0) (by decide)).mono ?_
    rintro e w7 ⟨rfl, hb⟩
    exact hK _ _ (hC.trans (hb.mono hC.size)) hb (wholeV_sg0 (neg := false))
  · intro a' w' hag hC hd
    refine ⟨fun _ => ?_, fun hw => absurd (wanted_of (j := 18) (d := 53) rfl rfl rfl hd.2.2.1) (by rw [hw]; decide)⟩
    intro K hK
    have e54 : a'.tmps.getD 54 undef = .agg #[.bool false, .string ⟨#[]⟩] := hd.1
    have e55 : a'.tmps.getD 55 undef = .agg #[.bool false, .string ⟨#[]⟩] := hd.2.1
    go_step
    exact hK _ _ hC ((Below.refl _ _)) rfl
  · intro a' w' hag hC hd K hK
    have e53 : a'.tmps.getD 53 undef = .bool true := hd.1
    have e56 : a'.tmps.getD 56 undef = .bool true := hd.2.1
    go_step
    exact hK _ _ hC ((Below.refl _ _)) rfl
  · intro a' w' hag hC hd K hK
    have e57 : a'.tmps.getD 57 undef = .bool true := hd.1
    go_step
    exact hK _ _ hC ((Below.refl _ _)) rfl
  · intro a' w' hag hC hd
    refine ⟨fun _ => ?_, fun hw => absurd (wanted_of (j := 23) (d := 58) rfl rfl rfl hd.1) (by rw [hw]; decide)⟩
    intro K hK
    have e10 : a'.tmps.getD 10 undef = .int .i64 0 := hag 10 rfl
    go_step
    exact hK _ _ hC ((Below.refl _ _)) rfl
  · intro a' w' hag hC hd
    refine ⟨fun _ => ?_, fun hw => absurd (wanted_of (j := 23) (d := 58) rfl rfl rfl hd.2.1) (by rw [hw]; decide)⟩
    intro K hK
    have e59 : a'.tmps.getD 59 undef = .int .i64 0 := hd.1
    go_step
    exact hK _ _ hC ((Below.refl _ _)) rfl
  · intro a' w' hag hC hd K hK
    have e58 : a'.tmps.getD 58 undef = .bool true := hd.1
    have e60 : a'.tmps.getD 60 undef = .bool true := hd.2.1
    go_step
    exact hK _ _ hC ((Below.refl _ _)) rfl
  · intro u w' hC hall
    obtain ⟨u0, u1, u2, u3, u4, u5, u6, u7, u8, u9, u10, u11, u12, u13, u14, u15, u16, u17, u18, u19, u20, u21, u22, u23, u24, u25, u26, _⟩ := hall
    have u0 : u 0 = .int .i64 0 := u0
    have u1 : u 1 = .bool true := u1
    have u2 : u 2 = .bool true := u2
    have u3 : u 3 = .int .i64 0 := u3
    have u4 : u 4 = .bool true := u4
    have u5 : u 5 = .bool true := u5
    have u6 : u 6 = .bool true := u6
    have u7 : u 7 = .int .i64 0 := u7
    have u8 : u 8 = .bool true := u8
    have u9 : u 9 = .bool true := u9
    have u10 : u 10 = .bool true := u10
    have u11 : u 11 = .string ⟨#[49, 47, 54]⟩ := u11
    have u12 : u 12 = .bool true := u12
    have u13 : u 13 = .bool true := u13
    have u14 : u 14 = .bool true := u14
    have u15 : u 15 = .int .i64 0 := u15
    have u16 : u 16 = .bool true := u16
    have u17 : u 17 = .bool true := u17
    have u18 : u 18 = .bool true := u18
    have u19 : u 19 = .agg #[.bool false, .string ⟨#[]⟩] := u19
    have u20 : u 20 = .agg #[.bool false, .string ⟨#[]⟩] := u20
    have u21 : u 21 = .bool true := u21
    have u22 : u 22 = .bool true := u22
    have u23 : u 23 = .bool true := u23
    have u24 : u 24 = .int .i64 0 := u24
    have u25 : u 25 = .bool true := u25
    have u26 : u 26 = .bool true := u26
    simp only [fillR, List.take_succ_cons, List.take_zero, Act.put, List.setIfInBounds_toArray, List.set_cons_succ, List.set_cons_zero, Nat.zero_add, Nat.reduceAdd, u0, u1, u2, u3, u4, u5, u6, u7, u8, u9, u10, u11, u12, u13, u14, u15, u16, u17, u18, u19, u20, u21, u22, u23, u24, u25, u26]
    clear u0 u1 u2 u3 u4 u5 u6 u7 u8 u9 u10 u11 u12 u13 u14 u15 u16 u17 u18 u19 u20 u21 u22 u23 u24 u25 u26
    have HB7 := Lib.hid (HB6.out.trans (hC.mono HB6.out.size))
    clear hC
    go_wp2
    go_ret
    exact ⟨rfl, HB7.out⟩
end Go.Proofs.YtaenedjanckaiaaGreat
