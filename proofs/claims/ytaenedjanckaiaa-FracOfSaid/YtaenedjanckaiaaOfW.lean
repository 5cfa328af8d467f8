/- The walk of FracOf. -/
import Derived.Test.YtaenedjanckaiaaRefJ
namespace Go.Proofs.Ytaenedjanckaiaa
set_option linter.unnecessarySimpa false
set_option linter.unusedVariables false
set_option linter.unusedSimpArgs false
open Go.RowKit

set_option maxHeartbeats 6400000 in
set_option maxRecDepth 100000 in
theorem FracOf_walk {w0 : World} (p q : Bool) (s t : ByteArray) (hs : s.size ≤ maxLen) (ht : t.size ≤ maxLen) :
    Calls Try.prog 3 #[.agg #[.bool p, .string s], .agg #[.bool q, .string t]] w0 fun e w' => e = .returned (.bool true) ∧ Below w0.heap.size w0 w' := by
  have hf1 := ((Frames.nil w0).push w0.heap.size #[.bool p, .string s] 23 rfl).push (w0.heap.size + 1) #[.bool q, .string t] 23 (by simp)
  have HB := Lib.hid (below_alloc_ (below_new w0 (.cells #[.bool p, .string s] 23)) (.cells #[.bool q, .string t] 23))
  have HF := Lib.hid hf1
  have HS := Lib.hid hs
  have HT := Lib.hid ht
  clear hs ht hf1
  by_cases h1 : 3000 < s.size
  · have h1i : (3000 : Int) < (s.size : Int) := by omega
    go_enter Try.func3, Try.ntmps3
    go_wp2_with fail
    refine known_any.mono ?_
    rintro e wk ⟨rfl, hb⟩
    have HBK := Lib.hid (HB.out.trans (hb.mono HB.out.size))
    clear hb
    go_wp2
    go_ret
    exact ⟨rfl, HBK.out⟩
  have h1i : (s.size : Int) ≤ 3000 := by omega
  by_cases h2 : 3000 < t.size
  · have h2i : (3000 : Int) < (t.size : Int) := by omega
    go_enter Try.func3, Try.ntmps3
    go_wp2_with fail
    refine known_any.mono ?_
    rintro e wk ⟨rfl, hb⟩
    have HBK := Lib.hid (HB.out.trans (hb.mono HB.out.size))
    clear hb
    go_wp2
    go_ret
    exact ⟨rfl, HBK.out⟩
  have h2i : (t.size : Int) ≤ 3000 := by omega
  have hd2 : decide ((3000 : Int) < (t.size : Int)) = false := decide_eq_false (by omega)
  have HL : Hid (s.size ≤ 3000 ∧ t.size ≤ 3000) := ⟨by omega, by omega⟩
  clear h1 h2
  go_enter Try.func3, Try.ntmps3
  go_wp2_with fail
  refine (FOf_any p q s t HS.out HT.out).mono ?_
  rintro e w1 ⟨v, k, rfl, ha, hb⟩
  have hagg : ∃ b s c t, v = .agg #[.bool b, .string s, .bool c, .string t] := by
    rcases ha with ⟨_, rfl, _⟩ | ⟨_, _, _, rfl, _⟩ | ⟨_, _, _, h⟩
    · exact ⟨_, _, _, _, rfl⟩
    · exact ⟨_, _, _, _, rfl⟩
    · exact h.agg
  obtain ⟨pb, ps, pc, pt, rfl⟩ := hagg
  have HA := Lib.hid ha
  have HF1 := Lib.hid ((HF.out.on hb).push w1.heap.size #[.bool pb, .string ps, .bool pc, .string pt] 26 rfl)
  have HB1 := Lib.hid (below_alloc_ (HB.out.trans (hb.mono HB.out.size)) (.cells #[.bool pb, .string ps, .bool pc, .string pt] 26))
  have hc0 := (HF1.out.get 2 rfl).cell 0 (.bool p) rfl
  have hc1 := (HF1.out.get 2 rfl).cell 1 (.string s) rfl
  clear ha hb h1i h2i hd2
  go_wp2_with fail
  refine (rmay_any p s).mono ?_
  rintro e w2 ⟨r, rfl, hr, hb⟩
  have HF2 := Lib.hid (HF1.out.on hb)
  have HB2 := Lib.hid (HB1.out.trans (hb.mono HB1.out.size))
  have HR := Lib.hid hr
  clear hr hb hc0 hc1
  cases r
  · have HN : Hid (¬ WholeOk p s) := fun h => Bool.noConfusion (HR.out.2 h)
    clear HR
    obtain ⟨hv, rfl⟩ : (Value.agg #[.bool pb, .string ps, .bool pc, .string pt]) = frac0 ∧ k = 2 := by
      rcases HA.out with ⟨_, h⟩ | ⟨h, _⟩ | ⟨h, _⟩
      · exact h
      · exact absurd h HN.out
      · exact absurd h HN.out
    obtain ⟨rfl, rfl, rfl, rfl⟩ := agg4 hv
    have hd0 := (HF2.out.get 0 rfl).cell 0 (.bool false) rfl
    have hd1 := (HF2.out.get 0 rfl).cell 1 (.string ⟨#[]⟩) rfl
    have hd2 := (HF2.out.get 0 rfl).cell 2 (.bool false) rfl
    have hd3 := (HF2.out.get 0 rfl).cell 3 (.string ⟨#[]⟩) rfl
    clear hv
    go_wp2_with fail
    refine known_any.mono ?_
    rintro e wk ⟨rfl, hb⟩
    have HBK := Lib.hid (HB2.out.trans (hb.mono HB2.out.size))
    clear hb
    go_wp2
    go_ret
    exact ⟨rfl, HBK.out⟩
  have HO : Hid (WholeOk p s) := by first | exact HR.out.1 rfl | exact HR.out.1 trivial
  have hc0 := (HF2.out.get 1 rfl).cell 0 (.bool q) rfl
  have hc1 := (HF2.out.get 1 rfl).cell 1 (.string t) rfl
  clear HR
  go_wp2_with fail
  refine (rmay_any q t).mono ?_
  rintro e w3 ⟨r, rfl, hr, hb⟩
  have HF3 := Lib.hid (HF2.out.on hb)
  have HB3 := Lib.hid (HB2.out.trans (hb.mono HB2.out.size))
  have HR := Lib.hid hr
  clear hr hb hc0 hc1
  cases r
  · have HN : Hid (¬ WholeOk q t) := fun h => Bool.noConfusion (HR.out.2 h)
    clear HR
    obtain ⟨hv, rfl⟩ : (Value.agg #[.bool pb, .string ps, .bool pc, .string pt]) = frac0 ∧ k = 2 := by
      rcases HA.out with ⟨_, h⟩ | ⟨_, h, _⟩ | ⟨_, h, _⟩
      · exact h
      · exact absurd h HN.out
      · exact absurd h HN.out
    obtain ⟨rfl, rfl, rfl, rfl⟩ := agg4 hv
    have hd0 := (HF3.out.get 0 rfl).cell 0 (.bool false) rfl
    have hd1 := (HF3.out.get 0 rfl).cell 1 (.string ⟨#[]⟩) rfl
    have hd2 := (HF3.out.get 0 rfl).cell 2 (.bool false) rfl
    have hd3 := (HF3.out.get 0 rfl).cell 3 (.string ⟨#[]⟩) rfl
    clear hv
    go_wp2_with fail
    refine known_any.mono ?_
    rintro e wk ⟨rfl, hb⟩
    have HBK := Lib.hid (HB3.out.trans (hb.mono HB3.out.size))
    clear hb
    go_wp2
    go_ret
    exact ⟨rfl, HBK.out⟩
  have HO2 : Hid (WholeOk q t) := by first | exact HR.out.1 rfl | exact HR.out.1 trivial
  have hc0 := (HF3.out.get 1 rfl).cell 0 (.bool q) rfl
  have hc1 := (HF3.out.get 1 rfl).cell 1 (.string t) rfl
  clear HR
  go_wp2_with fail
  refine (rsign_any q t (numOf q t) (numOf_ok HO2.out).1.symm (numOf_ok HO2.out).2.1.symm).mono ?_
  rintro e w4 ⟨rfl, hb⟩
  have HF4 := Lib.hid (HF3.out.on hb)
  have HB4 := Lib.hid (HB3.out.trans (hb.mono HB3.out.size))
  obtain ⟨m, hm⟩ : ∃ m, m = numOf q t := ⟨_, rfl⟩
  obtain ⟨sg0, hsg⟩ : ∃ x, x = m.sign := ⟨_, rfl⟩
  rw [← hm, ← hsg]
  have HSG := Lib.hid hsg
  have HM := Lib.hid hm
  clear hb hc0 hc1 hm hsg
  by_cases hk0 : sg0 = 0
  · have HN : Hid (numOf q t = 0) := by have := HSG.out; rw [hk0] at this; rw [Hid, ← HM.out]; exact Int.sign_eq_zero_iff_zero.1 this.symm
    subst hk0
    obtain ⟨hv, rfl⟩ : (Value.agg #[.bool pb, .string ps, .bool pc, .string pt]) = frac0 ∧ k = 5 := by
      rcases HA.out with ⟨h | h, _⟩ | ⟨_, _, _, h⟩ | ⟨_, _, h, _⟩
      · exact absurd HO.out h
      · exact absurd HO2.out h
      · exact h
      · exact absurd HN.out h
    obtain ⟨rfl, rfl, rfl, rfl⟩ := agg4 hv
    have hd0 := (HF4.out.get 0 rfl).cell 0 (.bool false) rfl
    have hd1 := (HF4.out.get 0 rfl).cell 1 (.string ⟨#[]⟩) rfl
    have hd2 := (HF4.out.get 0 rfl).cell 2 (.bool false) rfl
    have hd3 := (HF4.out.get 0 rfl).cell 3 (.string ⟨#[]⟩) rfl
    clear hv
    go_wp2_with fail
    refine known_any.mono ?_
    rintro e wk ⟨rfl, hb⟩
    have HBK := Lib.hid (HB4.out.trans (hb.mono HB4.out.size))
    clear hb
    go_wp2
    go_ret
    exact ⟨rfl, HBK.out⟩
  have hkk : (sg0 == 0) = false := by rw [beq_eq_false_iff_ne]; exact hk0
  have HN : Hid (numOf q t ≠ 0) := fun e => hk0 (by rw [HSG.out, HM.out, e]; rfl)
  obtain ⟨x, hx⟩ : ∃ x, x = Rat.divInt (numOf p s) (numOf q t) := ⟨_, rfl⟩
  have hans : (Value.agg #[.bool pb, .string ps, .bool pc, .string pt]) = ansV x ∧ k = ansK x := by
    rw [hx]
    rcases HA.out with ⟨h | h, _⟩ | ⟨_, _, h, _⟩ | ⟨_, _, _, h⟩
    · exact absurd HO.out h
    · exact absurd HO2.out h
    · exact absurd h HN.out
    · exact ans_eq h
  have HAV := Lib.hid hans.1
  have HAK := Lib.hid hans.2
  have HX := Lib.hid hx
  obtain ⟨b5, s5, c5, t5, h5⟩ : ∃ b s c t, (Value.agg #[.bool b, .string s, .bool c, .string t]) = fracV x := ⟨_, _, _, _, rfl⟩
  have H5 := Lib.hid h5
  clear hk0 hx hans h5 HA
  go_wp2
  refine wp_region_acts 6 (fun w' => Below w4.heap.size w4 w') (fun w w' => Below w.heap.size w w') (fun i w v => match i with
      | 0 => v = .agg #[.bool pb, .string ps, .bool pc, .string pt]
      | 1 => v = .int .i64 k
      | 2 => v = .agg #[.bool p, .string s]
      | 3 => v = .agg #[.bool q, .string t]
      | 4 => v = .agg #[.bool b5, .string s5, .bool c5, .string t5]
      | _ => v = .bool true) (by kernel_rfl) (by kernel_rfl) (by kernel_rfl) ((Below.refl _ _).drew) (fun _ _ => (Below.refl _ _)) ?_ ⟨?_, ?_, ?_, ?_, ?_, ?_, trivial⟩ ?_
  · intro i w1 w2 v hC hC2 hE hV
    match i with
    | 0 => exact hV
    | 1 => exact hV
    | 2 => exact hV
    | 3 => exact hV
    | 4 => exact hV
    | _ + 5 => exact hV
  · intro a' w' hag hC hd K hK
    have e5 : a'.tmps.getD 5 undef = .pointer (some ⟨w1.heap.size, 0, none⟩) := hag 5 rfl
    have hF := HF4.out.on hC
    have hc0 := (hF.get 0 rfl).cell 0 (.bool pb) rfl
    have hc1 := (hF.get 0 rfl).cell 1 (.string ps) rfl
    have hc2 := (hF.get 0 rfl).cell 2 (.bool pc) rfl
    have hc3 := (hF.get 0 rfl).cell 3 (.string pt) rfl
    have HK := Lib.hid (hK (.agg #[.bool pb, .string ps, .bool pc, .string pt]) _ hC (Below.refl _ _) rfl)
    clear hK hC hF
    go_step
    exact HK.out
  · intro a' w' hag hC hd K hK
    have e6 : a'.tmps.getD 6 undef = .int .i64 k := hag 6 rfl
    go_step
    exact hK _ _ hC ((Below.refl _ _)) rfl
  · intro a' w' hag hC hd K hK
    have e2 : a'.tmps.getD 2 undef = .pointer (some ⟨w0.heap.size, 0, none⟩) := hag 2 rfl
    have hF := HF4.out.on hC
    have hc0 := (hF.get 2 rfl).cell 0 (.bool p) rfl
    have hc1 := (hF.get 2 rfl).cell 1 (.string s) rfl
    have HK := Lib.hid (hK (.agg #[.bool p, .string s]) _ hC (Below.refl _ _) rfl)
    clear hK hC hF
    go_step
    exact HK.out
  · intro a' w' hag hC hd K hK
    have e3 : a'.tmps.getD 3 undef = .pointer (some ⟨w0.heap.size + 1, 0, none⟩) := hag 3 rfl
    have hF := HF4.out.on hC
    have hc0 := (hF.get 1 rfl).cell 0 (.bool q) rfl
    have hc1 := (hF.get 1 rfl).cell 1 (.string t) rfl
    have HK := Lib.hid (hK (.agg #[.bool q, .string t]) _ hC (Below.refl _ _) rfl)
    clear hK hC hF
    go_step
    exact HK.out
  · intro a' w' hag hC hd K hK
    have e57 : a'.tmps.getD 57 undef = .agg #[.bool p, .string s] := hd.1
    have e58 : a'.tmps.getD 58 undef = .agg #[.bool q, .string t] := hd.2.1
    go_step
    refine (r3of_any p q s t (numOf p s) (numOf q t) (numOf_ok HO.out).1.symm (numOf_ok HO2.out).1.symm (numOf_ok HO.out).2.1.symm (numOf_ok HO2.out).2.1.symm (Nat.le_trans HL.out.1 (by decide)) (Nat.le_trans HL.out.2 (by decide)) HN.out).mono ?_
    rintro e w2 ⟨rfl, hb⟩
    rw [← HX.out, ← H5.out]
    exact hK _ _ (hC.trans (hb.mono hC.size)) hb rfl
  · intro a' w' hag hC hd K hK
    have e55 : a'.tmps.getD 55 undef = .agg #[.bool pb, .string ps, .bool pc, .string pt] := hd.1
    have e56 : a'.tmps.getD 56 undef = .int .i64 k := hd.2.1
    have e59 : a'.tmps.getD 59 undef = .agg #[.bool b5, .string s5, .bool c5, .string t5] := hd.2.2.1
    go_step
    have ht := told_law (w := w') pb pc b5 c5 ps pt s5 t5 x HAV.out H5.out
    rw [← HAK.out] at ht
    refine ht.mono ?_
    rintro e w2 ⟨rfl, hb⟩
    exact hK _ _ (hC.trans (hb.mono hC.size)) hb rfl
  · intro u w' hC hall
    obtain ⟨u0, u1, u2, u3, u4, u5, _⟩ := hall
    have u0 : u 0 = .agg #[.bool pb, .string ps, .bool pc, .string pt] := u0
    have u1 : u 1 = .int .i64 k := u1
    have u2 : u 2 = .agg #[.bool p, .string s] := u2
    have u3 : u 3 = .agg #[.bool q, .string t] := u3
    have u4 : u 4 = .agg #[.bool b5, .string s5, .bool c5, .string t5] := u4
    have u5 : u 5 = .bool true := u5
    simp only [fillR, List.take_succ_cons, List.take_zero, Act.put, List.setIfInBounds_toArray, List.set_cons_succ, List.set_cons_zero, Nat.zero_add, Nat.reduceAdd, u0, u1, u2, u3, u4, u5]
    clear u0 u1 u2 u3 u4 u5
    have HB5 := Lib.hid (HB4.out.trans (hC.mono HB4.out.size))
    clear hC
    go_wp2_with fail
    refine known_any.mono ?_
    rintro e wk ⟨rfl, hb⟩
    have HBK := Lib.hid (HB5.out.trans (hb.mono HB5.out.size))
    clear hb
    go_wp2
    go_ret
    exact ⟨rfl, HBK.out⟩
end Go.Proofs.Ytaenedjanckaiaa
