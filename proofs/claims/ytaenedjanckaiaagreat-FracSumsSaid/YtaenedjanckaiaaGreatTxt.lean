/- Package whole: Text; package frac: Text. -/
import Derived.Test.YtaenedjanckaiaaGreatWof
import Derived.Test.YtaenedjanckaiaaGreatNst
namespace Go.Proofs.YtaenedjanckaiaaGreat
set_option linter.unnecessarySimpa false
set_option linter.unusedVariables false
set_option linter.unusedSimpArgs false
open Go.RowKit

set_option maxHeartbeats 1600000 in
set_option maxRecDepth 100000 in
theorem WText_any {w0 : World} (b : Bool) (s : ByteArray) (hs : s.size ≤ 4294967296) :
    Calls Tryz.prog 88 #[.agg #[.bool b, .string s]] w0 fun e w' => ∃ u k, e = .returned (.tuple #[.string u, .int .i64 k]) ∧ (WholeOk b s ∧ u = textN (numOf b s) ∧ k = 0 ∨ ¬ WholeOk b s ∧ u = ⟨#[]⟩ ∧ k = 2) ∧ Below w0.heap.size w0 w' := by
  have HS := Lib.hid hs
  have h1 := below_new w0 (.cells #[.bool b, .string s] 23)
  have h2 := below_new (w0.alloc (.cells #[.bool b, .string s] 23)) (.cells #[.bool b, .string s] 23)
  have HB := Lib.hid (h1.trans (h2.mono h1.size))
  have HX := Lib.hid (BoxAt.new_at (w := w0.alloc (.cells #[.bool b, .string s] 23)) #[.bool b, .string s] 23 (size_alloc w0 _).symm)
  clear hs h1 h2
  go_enter Tryz.func88, Tryz.ntmps88
  go_wp2_with fail
  refine (of_one b s HS.out HX.out).mono ?_
  rintro e w1 ⟨h, hb⟩
  have HB1 := Lib.hid (HB.out.trans (hb.mono HB.out.size))
  clear hb
  rcases h with ⟨ho, g, cap, p, rfl, hc, hi⟩ | ⟨ho, rfl⟩
  · have HO := Lib.hid ho
    have HI := Lib.hid hi
    have KT : Hid (Okt (numOf b s)) := by
      have h3 : (mag (numOf b s).natAbs).size ≤ 16384 := by rw [(numOf_ok ho).2.1]; exact ho.2
      have := wl_size h3
      unfold Hid Okt
      omega
    clear ho hi
    go_wp2_with fail
    refine (String_any HI.out KT.out).mono ?_
    rintro e w2 ⟨rfl, hb⟩
    have HB2 := Lib.hid (HB1.out.trans (hb.mono HB1.out.size))
    clear hb hc
    go_wp2
    go_ret2
    exact ⟨_, _, rfl, .inl ⟨HO.out, rfl, rfl⟩, HB2.out⟩
  · have HO := Lib.hid ho
    clear ho
    go_wp2
    go_ret2
    exact ⟨_, _, rfl, .inr ⟨HO.out, rfl, rfl⟩, HB1.out⟩
theorem textN_len (n : Int) : (textN n).size ≤ 32 * (dig n.natAbs).length + 1 := by
  rw [textN_size]
  unfold txt
  have := dd_len_words n.natAbs
  split
  · simp
  · rw [List.length_reverse, List.length_append]
    split <;> simp <;> omega
theorem textN_small {n : Int} (h : (mag n.natAbs).size ≤ 16384) : (textN n).size ≤ 200000 := by
  have h1 := textN_len n
  have h2 := wl_size h
  omega
/-- The text of a fraction. -/
def textQ (x : Rat) : ByteArray := if x.den = 1 then textN x.num else textN x.num ++ (⟨#[47]⟩ ++ textN (x.den : Int))
def TextAns (va : Value) (u : ByteArray) (k : Int) : Prop := (∃ x, Fit x ∧ va = fracV x ∧ u = textQ x ∧ k = 0) ∨ (¬ IsFrac va ∧ u = ⟨#[]⟩ ∧ k = 2)
theorem parts_den {b c : Bool} {s t : ByteArray} {x : Rat} (h : FracParts b s c t x) : c = false ∧ t = mag x.den ∧ WholeOk false t ∧ numOf false t = (x.den : Int) := by
  have h2 := (isFrac_parts h.isFrac).2.1
  obtain ⟨rfl, rfl, rfl, rfl⟩ := agg4 h.val
  refine ⟨rfl, rfl, h2, ?_⟩
  have := numOf_mag (x.den : Int)
  rwa [show decide ((x.den : Int) < 0) = false by simp, Int.natAbs_natCast] at this
theorem mag_one_iff {n : Nat} : mag n = mag 1 ↔ n = 1 := ⟨fun h => mag_inj h, fun h => by rw [h]⟩
set_option maxHeartbeats 3200000 in
set_option maxRecDepth 100000 in
theorem FText_any {w0 : World} (b c : Bool) (s t : ByteArray) (hs : s.size ≤ maxLen) (ht : t.size ≤ maxLen) :
    Calls Tryz.prog 44 #[.agg #[.bool b, .string s, .bool c, .string t]] w0 fun e w' => ∃ u k, e = .returned (.tuple #[.string u, .int .i64 k]) ∧ TextAns (.agg #[.bool b, .string s, .bool c, .string t]) u k ∧ Below w0.heap.size w0 w' := by
  have HS := Lib.hid hs
  have HT := Lib.hid ht
  have HW0 := Lib.hid (below_new w0 (.cells #[.bool b, .string s, .bool c, .string t] 25))
  have HX0 := Lib.hid (BoxAt.new w0 #[.bool b, .string s, .bool c, .string t] 25)
  clear hs ht
  go_enter Tryz.func44, Tryz.ntmps44
  go_wp2_with fail
  refine (May_any b c s t HS.out HT.out).mono ?_
  rintro e w1 ⟨r, rfl, hr, hb⟩
  have HX1 := Lib.hid (HX0.out.on hb)
  have HW1 := Lib.hid (HW0.out.trans (hb.mono HW0.out.size))
  have HR := Lib.hid hr
  clear hb hr
  cases r
  · go_wp2
    go_ret2
    exact ⟨_, _, rfl, .inr ⟨fun h => Bool.noConfusion (HR.out.2 h), rfl, rfl⟩, HW1.out⟩
  obtain ⟨x, hx⟩ := parts_of (by first | exact HR.out.1 rfl | exact HR.out.1 trivial)
  have HX := Lib.hid hx
  obtain ⟨rfl, ht2, ho2, hn2⟩ := parts_den hx
  have HT2 := Lib.hid ht2
  have HO2 := Lib.hid ho2
  have HN2 := Lib.hid hn2
  have hc0 := HX1.out.cell 0 (.bool b) rfl
  have hc1 := HX1.out.cell 1 (.string s) rfl
  clear hx HR ht2 ho2 hn2
  go_wp2_with fail
  refine (WText_any b s HX.out.hs).mono ?_
  rintro e w2 ⟨un, k, rfl, hu, hb⟩
  have HU : Hid (un = textN x.num) := by
    obtain ⟨h1, h2⟩ := fracV_num HX.out
    rcases hu with h | h
    · rw [← h2]; exact h.2.1
    · exact absurd h1 h.1
  have HX2 := Lib.hid (HX1.out.on hb)
  have HW2 := Lib.hid (HW1.out.trans (hb.mono HW1.out.size))
  clear hu hb hc0 hc1
  go_wp2
  refine wp_region_acts 4 (fun w' => Below w0.heap.size w0 w' ∧ BoxAt w' w0.heap.size #[.bool b, .string s, .bool false, .string t] 25) (fun w w' => Below w.heap.size w w') (fun i w v => match i with
      | 0 => v = .pointer (some ⟨w0.heap.size, 2, none⟩)
      | 1 => v = .agg #[.bool false, .string t]
      | 2 => ∃ g, v = .pointer (some ⟨g, 0, none⟩) ∧ IntAt w g 0 1
      | _ => ∃ s', v = .agg #[.bool false, .string s'] ∧ Hid (s' = mag 1)) (by kernel_rfl) (by kernel_rfl) (by kernel_rfl) ⟨HW2.out.drew, HX2.out⟩ (fun _ _ => (Below.refl _ _)) ?_ ⟨?_, ?_, ?_, ?_, trivial⟩ ?_
  · intro i w1 w2 v hC hC2 hE hV
    match i with
    | 0 => exact hV
    | 1 => exact hV
    | 2 => obtain ⟨g, e, h⟩ := hV; exact ⟨g, e, h.on hE⟩
    | _ + 3 => exact hV
  · intro a' w' hag hC hd K hK
    have e1 : a'.tmps.getD 1 undef = .pointer (some ⟨w0.heap.size, 0, none⟩) := hag 1 rfl
    go_step
    exact hK _ _ hC ((Below.refl _ _)) rfl
  · intro a' w' hag hC hd K hK
    have e17 : a'.tmps.getD 17 undef = .pointer (some ⟨w0.heap.size, 2, none⟩) := hd.1
    have hc0 := hC.2.cell 2 (.bool false) rfl
    have hc1 := hC.2.cell 3 (.string t) rfl
    have HK := Lib.hid (hK (.agg #[.bool false, .string t]) _ hC (Below.refl _ _) rfl)
    clear hK hC
    go_step
    exact HK.out
  · intro a' w' hag hC hd K hK
    go_step
    refine (NewInt_any (n := 1) (by decide)).mono ?_
    rintro e w2 ⟨g, rfl, hg, h1, h2⟩
    exact hK _ _ ⟨hC.1.trans (h2.mono hC.1.size), hC.2.on h2⟩ h2 ⟨_, rfl, h1⟩
  · intro a' w' hag hC hd K hK
    obtain ⟨g19, e19, h19⟩ := hd.1
    have e19 : a'.tmps.getD 19 undef = .pointer (some ⟨g19, 0, none⟩) := e19
    go_step
    refine (back_agg h19 (okn_i64 (by decide))).mono ?_
    rintro e w2 ⟨p, s', rfl, h1, h2, hb⟩
    have hp : p = false := by rw [h1.out]; rfl
    subst hp
    exact hK _ _ ⟨hC.1.trans (hb.mono hC.1.size), hC.2.on hb⟩ hb ⟨s', rfl, h2⟩
  · intro u w' hC hall
    obtain ⟨u0, u1, u2, u3, _⟩ := hall
    have u0 : u 0 = .pointer (some ⟨w0.heap.size, 2, none⟩) := u0
    have u1 : u 1 = .agg #[.bool false, .string t] := u1
    obtain ⟨s20, eu3, hs20⟩ := u3
    have u3 : u 3 = .agg #[.bool false, .string s20] := eu3
    simp only [fillR, List.take_succ_cons, List.take_zero, Act.put, List.setIfInBounds_toArray, List.set_cons_succ, List.set_cons_zero, Nat.zero_add, Nat.reduceAdd, u0, u1, u3]
    clear u0 u1 u3
    have HC := Lib.hid hC.1
    have HX3 := Lib.hid hC.2
    clear hC
    by_cases hd : t.toList = s20.toList
    · have HD : Hid (x.den = 1) := by
        have h1 := toList_inj.1 hd
        rw [HT2.out, hs20.out] at h1
        exact mag_inj h1
      go_wp2
      go_ret2
      exact ⟨_, _, rfl, .inl ⟨x, HX.out.fit, HX.out.val, by rw [textQ, if_pos HD.out]; exact HU.out, rfl⟩, HC.out⟩
    · have HD : Hid (¬ x.den = 1) := fun e => hd (by rw [HT2.out, hs20.out, e])
      have hc0 := HX3.out.cell 2 (.bool false) rfl
      have hc1 := HX3.out.cell 3 (.string t) rfl
      go_wp2_with fail
      refine (WText_any false t HX.out.ht).mono ?_
      rintro e w4 ⟨u2, k2, rfl, hu, hb⟩
      have HU2 : Hid (u2 = textN (x.den : Int)) := by
        rcases hu with h | h
        · rw [← HN2.out]; exact h.2.1
        · exact absurd HO2.out h.1
      have HB := Lib.hid (HC.out.trans (hb.mono HC.out.size))
      have hu1 : un.size ≤ 200000 := by rw [HU.out]; exact textN_small (Nat.le_trans HX.out.fit.1 (by decide))
      have hu2 : u2.size ≤ 200000 := by rw [HU2.out]; exact textN_small (by rw [Int.natAbs_natCast]; exact Nat.le_trans HX.out.fit.2 (by decide))
      have hu3 : ((⟨#[47]⟩ : ByteArray) ++ u2).size ≤ 200001 := by rw [ByteArray.size_append]; show 1 + u2.size ≤ _; omega
      clear hu hb hc0 hc1
      go_wp2
      go_ret2
      exact ⟨_, _, rfl, .inl ⟨x, HX.out.fit, HX.out.val, by rw [textQ, if_neg HD.out, ← HU.out, ← HU2.out], rfl⟩, HB.out⟩
end Go.Proofs.YtaenedjanckaiaaGreat
