/- Package frac: Small, floor, Nearest. -/
import Derived.Test.YtaenedjanckaiaaGreatOps
namespace Go.Proofs.YtaenedjanckaiaaGreat
set_option linter.unnecessarySimpa false
set_option linter.unusedVariables false
set_option linter.unusedSimpArgs false
open Go.RowKit

/-- A place for an answer. -/
structure Uno (w0 w : World) : Prop where
  below : Below w0.heap.size w0 w
  place : BoxAt w w0.heap.size #[.bool false, .string ⟨#[]⟩, .bool false, .string ⟨#[]⟩] 25
theorem Uno.new (w0 : World) : Uno w0 (w0.alloc (.cells #[.bool false, .string ⟨#[]⟩, .bool false, .string ⟨#[]⟩] 25)) := ⟨below_new _ _, BoxAt.new _ _ _⟩
theorem Uno.on {w0 w w' : World} (h : Uno w0 w) (k : Below w.heap.size w w') : Uno w0 w' := ⟨h.below.trans (k.mono h.below.size), h.place.on k⟩
def SmallAns (n m : Int) (v : Value) (k : Int) : Prop := (m = 0 ∧ v = frac0 ∧ k = 5) ∨ (m ≠ 0 ∧ Ans (Rat.divInt n m) v k)
theorem sz_i64 {n : Int} (h : -9223372036854775808 ≤ n ∧ n ≤ 9223372036854775807) : sz n ≤ 8 := by
  rw [sz_le]
  have : n.natAbs ≤ 9223372036854775808 := by omega
  exact Nat.lt_of_le_of_lt this (by decide)
theorem okn_i64 {n : Int} (h : -9223372036854775808 ≤ n ∧ n ≤ 9223372036854775807) : Okn n := okn_size (Nat.le_trans (sz_i64 h) (by decide))
set_option maxHeartbeats 1600000 in
set_option maxRecDepth 100000 in
theorem Small_any {w0 : World} {n m : Int} (hn : -9223372036854775808 ≤ n ∧ n ≤ 9223372036854775807) (hm : -9223372036854775808 ≤ m ∧ m ≤ 9223372036854775807) :
    Calls Tryz.prog 34 #[.int .i64 n, .int .i64 m] w0 fun e w' => ∃ v k, e = .returned (.tuple #[v, .int .i64 k]) ∧ SmallAns n m v k ∧ Below w0.heap.size w0 w' := by
  have HN := Lib.hid hn
  have HM := Lib.hid hm
  have HW0 := Lib.hid (Uno.new w0)
  clear hn hm
  have HP0 := Lib.hid HW0.out.place
  by_cases h0 : m = 0
  · subst h0
    go_enter Tryz.func34, Tryz.ntmps34
    go_wp2
    have hk := HP0.out.put4 (.bool false) (.string ⟨#[]⟩) (.bool false) (.string ⟨#[]⟩)
    exact bodyPost_ret (v := .tuple #[frac0, .int .i64 5]) (by simp [results, Tryz.results34, go_sem, frac0]) rfl ⟨_, _, rfl, .inl ⟨rfl, rfl, rfl⟩, HW0.out.below⟩

  · have hmm : (m == 0) = false := by rw [beq_eq_false_iff_ne]; exact h0
    have H0 := Lib.hid h0
    have HA := Lib.hid (below_new (w0.alloc (.cells #[.bool false, .string ⟨#[]⟩, .bool false, .string ⟨#[]⟩] 25)) (.cells #[.bool false, .slice none 0 0, .bool false, .slice none 0 0] 85))
    have HW1 := Lib.hid (HW0.out.on HA.out)
    have HR1 := Lib.hid (RatAt.new (w0.alloc (.cells #[.bool false, .string ⟨#[]⟩, .bool false, .string ⟨#[]⟩] 25))).slot
    rw [size_alloc] at HR1
    clear h0
    go_enter Tryz.func34, Tryz.ntmps34
    go_wp2_with fail
    refine (NewInt_any HN.out).mono ?_
    rintro e w2 ⟨g1, rfl, _, h1, hb⟩
    have HW2 := Lib.hid (HW1.out.on hb)
    have HR2 := Lib.hid (HR1.out.on hb)
    have H1 := Lib.hid h1
    clear h1 hb
    go_wp2_with fail
    refine (NewInt_any HM.out).mono ?_
    rintro e w3 ⟨g2, rfl, _, h1, hb⟩
    have HW3 := Lib.hid (HW2.out.on hb)
    have HR3 := Lib.hid (HR2.out.on hb)
    have H13 := Lib.hid (H1.out.on hb)
    have H2 := Lib.hid h1
    clear h1 hb
    go_wp2_with fail
    refine (SetFrac_any HR3.out H13.out H2.out H0.out (okn_i64 HN.out) (okn_i64 HM.out)).mono ?_
    rintro e w4 ⟨rfl, h1, h2⟩
    have HB4 := Lib.hid (h2.below (B := w0.heap.size + 1) (Nat.le_refl _) HW3.out.place.lt)
    have HP4 : Hid (BoxAt w4 w0.heap.size #[.bool false, .string ⟨#[]⟩, .bool false, .string ⟨#[]⟩] 25) := by
      have := HW3.out.place
      unfold BoxAt at this
      unfold Hid BoxAt
      rw [HB4.out.block _ (by omega)]
      exact this
    have HW4 : Hid (Uno w0 w4) := ⟨HW3.out.below.trans (HB4.out.mono (by omega)), HP4.out⟩
    have HQ := Lib.hid h1
    clear h1 h2
    go_wp2_with fail
    refine (answer_any HQ.out ((sz_divInt H0.out (sz_i64 HN.out) (sz_i64 HM.out)).okR (by decide))).mono ?_
    rintro e w5 ⟨v, k, rfl, ha, hb⟩
    obtain ⟨pb, ps, pc, pt, rfl⟩ := ha.agg
    have HA5 := Lib.hid ha
    have HW5 := Lib.hid (HW4.out.on hb)
    have HP5 := Lib.hid HW5.out.place
    clear ha hb
    have hp0 := HP5.out.cell 0 _ rfl
    have hp1 := HP5.out.cell 1 _ rfl
    have hp2 := HP5.out.cell 2 _ rfl
    have hp3 := HP5.out.cell 3 _ rfl
    have hf := HP5.out.frozen
    go_wp2
    have hk := HP5.out.put4 (.bool pb) (.string ps) (.bool pc) (.string pt)
    have k0 := hk.cell 0 _ rfl
    have k1 := hk.cell 1 _ rfl
    have k2 := hk.cell 2 _ rfl
    have k3 := hk.cell 3 _ rfl
    exact bodyPost_ret (v := .tuple #[.agg #[.bool pb, .string ps, .bool pc, .string pt], .int .i64 k]) (by simp [results, Tryz.results34, go_sem, k0, k1, k2, k3]) rfl ⟨_, _, rfl, .inr ⟨H0.out, HA5.out⟩, below_put4 HW5.out.below (Nat.le_refl _) _ _ _ _⟩

set_option maxRecDepth 100000 in
theorem floor_any {w : World} {b o : Nat} {q : Rat} (hx : RatAt w b o q) (hq : OkR q) :
    Calls Tryz.prog 67 #[.pointer (some ⟨b, o, none⟩)] w fun e w' => ∃ g, e = .returned (.pointer (some ⟨g, 0, none⟩)) ∧ w.heap.size ≤ g ∧ IntAt w' g 0 (q.num / (q.den : Int)) ∧ Below w.heap.size w w' := by
  have HA := Lib.hid (below_new w (.cells #[.bool false, .slice none 0 0] 83))
  have HX := Lib.hid (hx.on HA.out)
  have HS := Lib.hid (IntAt.new w).slot
  have HQ := Lib.hid hq
  clear hx hq
  go_enter Tryz.func67, Tryz.ntmps67
  go_wp2_with fail
  refine (rNum_any HX.out).mono ?_
  rintro e w1 ⟨g1, rfl, _, h1, hb⟩
  have HX1 := Lib.hid (HX.out.on hb)
  have HS1 := Lib.hid (HS.out.on hb)
  have HB1 := Lib.hid (HA.out.trans (hb.mono HA.out.size))
  have H1 := Lib.hid h1
  clear h1 hb
  go_wp2_with fail
  refine (rDenom_any HX1.out).mono ?_
  rintro e w2 ⟨g2, rfl, _, h1, hb⟩
  have HS2 := Lib.hid (HS1.out.on hb)
  have HB2 := Lib.hid (HB1.out.trans (hb.mono HB1.out.size))
  have H12 := Lib.hid (H1.out.on hb)
  have H2 := Lib.hid h1
  clear h1 hb
  go_wp2_with fail
  refine (Div_any HS2.out H12.out H2.out (den_ne q) HQ.out.num HQ.out.den).mono ?_
  rintro e w3 ⟨rfl, h1, h2⟩
  have H3 := Lib.hid h1
  have HB3 := Lib.hid (HB2.out.trans (h2.below (Nat.le_refl _) HB2.out.size))
  clear h1 h2
  go_wp2
  go_ret
  exact ⟨_, rfl, Nat.le_refl _, H3.out, HB3.out⟩
end Go.Proofs.YtaenedjanckaiaaGreat
