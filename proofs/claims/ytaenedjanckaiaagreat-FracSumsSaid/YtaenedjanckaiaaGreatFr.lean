/- Package frac: rat, told, short, answer. -/
import Derived.Test.YtaenedjanckaiaaGreatNb
import Derived.Test.YtaenedjanckaiaaGreatRatD
namespace Go.Proofs.YtaenedjanckaiaaGreat
set_option linter.unnecessarySimpa false
set_option linter.unusedVariables false
set_option linter.unusedSimpArgs false
open Go.RowKit

/-- A fraction's value, part by part. -/
def fracA (b : Bool) (s : ByteArray) (c : Bool) (t : ByteArray) : Value := .agg #[.bool b, .string s, .bool c, .string t]

set_option maxHeartbeats 1600000 in
set_option maxRecDepth 100000 in
theorem rat_any {w0 : World} (b c : Bool) (s t : ByteArray) (hs : s.size ≤ 4294967296) (ht : t.size ≤ 4294967296) (h0 : numOf c t ≠ 0) (k1 : Okn (numOf b s)) (k2 : Okn (numOf c t)) :
    Calls Tryz.prog 53 #[.agg #[.bool b, .string s, .bool c, .string t]] w0 fun e w' => ∃ g, e = .returned (.pointer (some ⟨g, 0, none⟩)) ∧ w0.heap.size ≤ g ∧ RatAt w' g 0 (Rat.divInt (numOf b s) (numOf c t)) ∧ Below w0.heap.size w0 w' := by
  have HS := Lib.hid hs
  have HT := Lib.hid ht
  have H0 := Lib.hid h0
  have K1 := Lib.hid k1
  have K2 := Lib.hid k2
  obtain ⟨B, hB⟩ : ∃ B, B = w0.heap.size := ⟨_, rfl⟩
  have HB := Lib.hid hB
  have HW : Hid (Below B w0 (w0.alloc (.cells #[.bool b, .string s, .bool c, .string t] 25))) := by rw [hB]; exact below_new _ _
  have HBX := Lib.hid (BoxAt.new w0 #[.bool b, .string s, .bool c, .string t] 25)
  clear hs ht h0 k1 k2 hB
  go_enter Tryz.func53, Tryz.ntmps53
  go_wp2
  refine wp_region_acts 7 (fun w' => Below B w0 w' ∧ BoxAt w' w0.heap.size #[.bool b, .string s, .bool c, .string t] 25) (fun w w' => Below w.heap.size w w') (fun i w v => match i with
      | 0 => ∃ g, v = .pointer (some ⟨g, 0, none⟩) ∧ B ≤ g ∧ Slot w g 0 4
      | 1 => v = .pointer (some ⟨w0.heap.size, 0, none⟩)
      | 2 => v = .agg #[.bool b, .string s]
      | 3 => ∃ g, v = .pointer (some ⟨g, 0, none⟩) ∧ B ≤ g ∧ IntAt w g 0 (numOf b s)
      | 4 => v = .pointer (some ⟨w0.heap.size, 2, none⟩)
      | 5 => v = .agg #[.bool c, .string t]
      | _ => ∃ g, v = .pointer (some ⟨g, 0, none⟩) ∧ B ≤ g ∧ IntAt w g 0 (numOf c t)) (by kernel_rfl) (by kernel_rfl) (by kernel_rfl) ⟨HW.out.drew, HBX.out⟩ (fun _ _ => (Below.refl _ _)) ?_ ⟨?_, ?_, ?_, ?_, ?_, ?_, ?_, trivial⟩ ?_
  · intro i w1 w2 v hC hC2 hE hV
    match i with
    | 0 => obtain ⟨g, e, hb, h⟩ := hV; exact ⟨g, e, hb, h.on hE⟩
    | 1 => exact hV
    | 2 => exact hV
    | 3 => obtain ⟨g, e, hb, h⟩ := hV; exact ⟨g, e, hb, h.on hE⟩
    | 4 => exact hV
    | 5 => exact hV
    | _ + 6 => obtain ⟨g, e, hb, h⟩ := hV; exact ⟨g, e, hb, h.on hE⟩
  · intro a' w' hag hC hd K hK
    have hb := below_new w' (.cells #[.bool false, .slice none 0 0, .bool false, .slice none 0 0] 85)
    have HK := Lib.hid (hK (.pointer (some ⟨w'.heap.size, 0, none⟩)) _ ⟨hC.1.trans (hb.mono (by have := hC.1.size; have := HB.out; omega)), hC.2.on hb⟩ hb ⟨_, rfl, by have := hC.1.size; have := HB.out; omega, (RatAt.new w').slot⟩)
    clear hb hK hC
    go_step
    exact HK.out
  · intro a' w' hag hC hd K hK
    have e1 : a'.tmps.getD 1 undef = .pointer (some ⟨w0.heap.size, 0, none⟩) := hag 1 rfl
    go_step
    exact hK _ _ hC ((Below.refl _ _)) rfl
  · intro a' w' hag hC hd K hK
    have e4 : a'.tmps.getD 4 undef = .pointer (some ⟨w0.heap.size, 0, none⟩) := hd.1
    have hc0 := hC.2.cell 0 (.bool b) rfl
    have hc1 := hC.2.cell 1 (.string s) rfl
    have HK := Lib.hid (hK (.agg #[.bool b, .string s]) _ hC (Below.refl _ _) rfl)
    clear hK hC
    go_step
    exact HK.out
  · intro a' w' hag hC hd K hK
    have e5 : a'.tmps.getD 5 undef = .agg #[.bool b, .string s] := hd.1
    go_step
    refine (number_any b s HS.out).mono ?_
    rintro e w2 ⟨g, rfl, hg, h1, h2⟩
    have hsz : B ≤ w'.heap.size := by have := hC.1.size; have := HB.out; omega
    exact hK _ _ ⟨hC.1.trans (h2.mono hsz), hC.2.on h2⟩ h2 ⟨_, rfl, Nat.le_trans hsz hg, h1⟩
  · intro a' w' hag hC hd K hK
    have e1 : a'.tmps.getD 1 undef = .pointer (some ⟨w0.heap.size, 0, none⟩) := hag 1 rfl
    go_step
    exact hK _ _ hC ((Below.refl _ _)) rfl
  · intro a' w' hag hC hd K hK
    have e7 : a'.tmps.getD 7 undef = .pointer (some ⟨w0.heap.size, 2, none⟩) := hd.1
    have hc0 := hC.2.cell 2 (.bool c) rfl
    have hc1 := hC.2.cell 3 (.string t) rfl
    have HK := Lib.hid (hK (.agg #[.bool c, .string t]) _ hC (Below.refl _ _) rfl)
    clear hK hC
    go_step
    exact HK.out
  · intro a' w' hag hC hd K hK
    have e8 : a'.tmps.getD 8 undef = .agg #[.bool c, .string t] := hd.1
    go_step
    refine (number_any c t HT.out).mono ?_
    rintro e w2 ⟨g, rfl, hg, h1, h2⟩
    have hsz : B ≤ w'.heap.size := by have := hC.1.size; have := HB.out; omega
    exact hK _ _ ⟨hC.1.trans (h2.mono hsz), hC.2.on h2⟩ h2 ⟨_, rfl, Nat.le_trans hsz hg, h1⟩
  · intro u w' hC hall
    obtain ⟨u0, u1, u2, u3, u4, u5, u6, _⟩ := hall
    obtain ⟨g3, eu0, hb3, h3⟩ := u0
    have u0 : u 0 = .pointer (some ⟨g3, 0, none⟩) := eu0
    have u1 : u 1 = .pointer (some ⟨w0.heap.size, 0, none⟩) := u1
    have u2 : u 2 = .agg #[.bool b, .string s] := u2
    obtain ⟨g6, eu3, hb6, h6⟩ := u3
    have u3 : u 3 = .pointer (some ⟨g6, 0, none⟩) := eu3
    have u4 : u 4 = .pointer (some ⟨w0.heap.size, 2, none⟩) := u4
    have u5 : u 5 = .agg #[.bool c, .string t] := u5
    obtain ⟨g9, eu6, hb9, h9⟩ := u6
    have u6 : u 6 = .pointer (some ⟨g9, 0, none⟩) := eu6
    simp only [fillR, List.take_succ_cons, List.take_zero, Act.put, List.setIfInBounds_toArray, List.set_cons_succ, List.set_cons_zero, Nat.zero_add, Nat.reduceAdd, u0, u1, u2, u3, u4, u5, u6]
    clear u0 u1 u2 u3 u4 u5 u6
    have HC := Lib.hid hC.1
    have H3 := Lib.hid h3
    have H6 := Lib.hid h6
    have H9 := Lib.hid h9
    clear hC h3 h6 h9
    go_wp2_with fail
    refine (SetFrac_any H3.out H6.out H9.out H0.out K1.out K2.out).mono ?_
    rintro e w3 ⟨rfl, h1, h2⟩
    have H1 := Lib.hid h1
    have HE := Lib.hid (HC.out.trans (h2.below hb3 (by have := HC.out.size; have := HB.out; omega)))
    clear h1 h2
    go_wp2
    go_ret
    exact ⟨_, rfl, by rw [← HB.out]; exact hb3, H1.out, by rw [← HB.out]; exact HE.out⟩
end Go.Proofs.YtaenedjanckaiaaGreat
