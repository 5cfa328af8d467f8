/- Package frac: Add, Sub, Mul, Div, Cmp, Sign. -/
import Derived.Test.YtaenedjanckaiaaGreatArith
namespace Go.Proofs.YtaenedjanckaiaaGreat
set_option linter.unnecessarySimpa false
set_option linter.unusedVariables false
set_option linter.unusedSimpArgs false
open Go.RowKit

/-- The sign that is told. -/
def SignPost (va : Value) (w : World) (e : Ending) (w' : World) : Prop :=
  ∃ k : Int, e = .returned (.int .i64 k) ∧ ((∃ x, Fit x ∧ va = fracV x ∧ k = x.num.sign) ∨ (¬ IsFrac va ∧ k = 0)) ∧ Below w.heap.size w w'
theorem fracV_num {b c : Bool} {s t : ByteArray} {x : Rat} (h : FracParts b s c t x) : WholeOk b s ∧ numOf b s = x.num := by
  have h1 := (isFrac_parts h.isFrac).1
  obtain ⟨rfl, rfl, _, _⟩ := agg4 h.val
  exact ⟨h1, numOf_mag _⟩
set_option maxRecDepth 100000 in
theorem FSign_any {w0 : World} (b c : Bool) (s t : ByteArray) (hs : s.size ≤ maxLen) (ht : t.size ≤ maxLen) :
    Calls Tryz.prog 38 #[.agg #[.bool b, .string s, .bool c, .string t]] w0 (SignPost (.agg #[.bool b, .string s, .bool c, .string t]) w0) := by
  have HS := Lib.hid hs
  have HT := Lib.hid ht
  have HW0 := Lib.hid (below_new w0 (.cells #[.bool b, .string s, .bool c, .string t] 25))
  have HX0 := Lib.hid (BoxAt.new w0 #[.bool b, .string s, .bool c, .string t] 25)
  clear hs ht
  go_enter Tryz.func38, Tryz.ntmps38
  go_wp2_with fail
  refine (May_any b c s t HS.out HT.out).mono ?_
  rintro e w1 ⟨r, rfl, hr, hb⟩
  have HX1 := Lib.hid (HX0.out.on hb)
  have HW1 := Lib.hid (HW0.out.trans (hb.mono HW0.out.size))
  have HR := Lib.hid hr
  clear hb hr
  cases r
  · go_wp2
    go_ret
    exact ⟨0, rfl, .inr ⟨fun h => Bool.noConfusion (HR.out.2 h), rfl⟩, HW1.out⟩
  obtain ⟨x, hx⟩ := parts_of (by first | exact HR.out.1 rfl | exact HR.out.1 trivial)
  have HX := Lib.hid hx
  have hc0 := HX1.out.cell 0 (.bool b) rfl
  have hc1 := HX1.out.cell 1 (.string s) rfl
  clear hx HR
  go_wp2_with fail
  refine (WSign_any b s HS.out).mono ?_
  rintro e w2 ⟨k, rfl, hk, hb⟩
  have HW2 := Lib.hid (HW1.out.trans (hb.mono HW1.out.size))
  have HK := Lib.hid hk
  clear hk hb
  go_wp2
  go_ret
  refine ⟨k, rfl, .inl ⟨x, HX.out.fit, HX.out.val, ?_⟩, HW2.out⟩
  obtain ⟨h1, h2⟩ := fracV_num HX.out
  rcases HK.out with h | h
  · rw [h.2, h2]
  · exact absurd h1 h.1

set_option maxHeartbeats 1600000 in
set_option maxRecDepth 100000 in
theorem FAdd_any {w0 : World} (b c b2 c2 : Bool) (s t s2 t2 : ByteArray) (hs : s.size ≤ maxLen) (ht : t.size ≤ maxLen) (hs2 : s2.size ≤ maxLen) (ht2 : t2.size ≤ maxLen) :
    Calls Tryz.prog 10 #[.agg #[.bool b, .string s, .bool c, .string t], .agg #[.bool b2, .string s2, .bool c2, .string t2]] w0 (BinPost (fun x y => x + y) (.agg #[.bool b, .string s, .bool c, .string t]) (.agg #[.bool b2, .string s2, .bool c2, .string t2]) w0) := by
  have HS := Lib.hid hs
  have HT := Lib.hid ht
  have HS2 := Lib.hid hs2
  have HT2 := Lib.hid ht2
  have HW0 := Lib.hid (Two.new w0 #[.bool b, .string s, .bool c, .string t] #[.bool b2, .string s2, .bool c2, .string t2])
  clear hs ht hs2 ht2
  go_enter Tryz.func10, Tryz.ntmps10
  go_wp2_with fail
  refine (both_add b c b2 c2 s t s2 t2 HS.out HT.out HS2.out HT2.out).mono ?_
  rintro e w1 ⟨v, k, rfl, ha, hb⟩
  obtain ⟨pb, ps, pc, pt, rfl⟩ := ha.agg
  have HA := Lib.hid ha
  have HW1 := Lib.hid (HW0.out.on hb)
  clear ha hb
  have hp0 := HW1.out.place.cell 0 _ rfl
  have hp1 := HW1.out.place.cell 1 _ rfl
  have hp2 := HW1.out.place.cell 2 _ rfl
  have hp3 := HW1.out.place.cell 3 _ rfl
  have hf := HW1.out.place.frozen
  go_wp2
  have hk := HW1.out.place.put4 (.bool pb) (.string ps) (.bool pc) (.string pt)
  have k0 := hk.cell 0 _ rfl
  have k1 := hk.cell 1 _ rfl
  have k2 := hk.cell 2 _ rfl
  have k3 := hk.cell 3 _ rfl
  exact bodyPost_ret (v := .tuple #[.agg #[.bool pb, .string ps, .bool pc, .string pt], .int .i64 k]) (by simp [results, Tryz.results10, go_sem, k0, k1, k2, k3]) rfl ⟨_, _, rfl, HA.out, below_put4 HW1.out.below (by omega) _ _ _ _⟩

set_option maxHeartbeats 1600000 in
set_option maxRecDepth 100000 in
theorem FSub_any {w0 : World} (b c b2 c2 : Bool) (s t s2 t2 : ByteArray) (hs : s.size ≤ maxLen) (ht : t.size ≤ maxLen) (hs2 : s2.size ≤ maxLen) (ht2 : t2.size ≤ maxLen) :
    Calls Tryz.prog 11 #[.agg #[.bool b, .string s, .bool c, .string t], .agg #[.bool b2, .string s2, .bool c2, .string t2]] w0 (BinPost (fun x y => x - y) (.agg #[.bool b, .string s, .bool c, .string t]) (.agg #[.bool b2, .string s2, .bool c2, .string t2]) w0) := by
  have HS := Lib.hid hs
  have HT := Lib.hid ht
  have HS2 := Lib.hid hs2
  have HT2 := Lib.hid ht2
  have HW0 := Lib.hid (Two.new w0 #[.bool b, .string s, .bool c, .string t] #[.bool b2, .string s2, .bool c2, .string t2])
  clear hs ht hs2 ht2
  go_enter Tryz.func11, Tryz.ntmps11
  go_wp2_with fail
  refine (both_sub b c b2 c2 s t s2 t2 HS.out HT.out HS2.out HT2.out).mono ?_
  rintro e w1 ⟨v, k, rfl, ha, hb⟩
  obtain ⟨pb, ps, pc, pt, rfl⟩ := ha.agg
  have HA := Lib.hid ha
  have HW1 := Lib.hid (HW0.out.on hb)
  clear ha hb
  have hp0 := HW1.out.place.cell 0 _ rfl
  have hp1 := HW1.out.place.cell 1 _ rfl
  have hp2 := HW1.out.place.cell 2 _ rfl
  have hp3 := HW1.out.place.cell 3 _ rfl
  have hf := HW1.out.place.frozen
  go_wp2
  have hk := HW1.out.place.put4 (.bool pb) (.string ps) (.bool pc) (.string pt)
  have k0 := hk.cell 0 _ rfl
  have k1 := hk.cell 1 _ rfl
  have k2 := hk.cell 2 _ rfl
  have k3 := hk.cell 3 _ rfl
  exact bodyPost_ret (v := .tuple #[.agg #[.bool pb, .string ps, .bool pc, .string pt], .int .i64 k]) (by simp [results, Tryz.results11, go_sem, k0, k1, k2, k3]) rfl ⟨_, _, rfl, HA.out, below_put4 HW1.out.below (by omega) _ _ _ _⟩

set_option maxHeartbeats 1600000 in
set_option maxRecDepth 100000 in
theorem FMul_any {w0 : World} (b c b2 c2 : Bool) (s t s2 t2 : ByteArray) (hs : s.size ≤ maxLen) (ht : t.size ≤ maxLen) (hs2 : s2.size ≤ maxLen) (ht2 : t2.size ≤ maxLen) :
    Calls Tryz.prog 12 #[.agg #[.bool b, .string s, .bool c, .string t], .agg #[.bool b2, .string s2, .bool c2, .string t2]] w0 (BinPost (fun x y => x * y) (.agg #[.bool b, .string s, .bool c, .string t]) (.agg #[.bool b2, .string s2, .bool c2, .string t2]) w0) := by
  have HS := Lib.hid hs
  have HT := Lib.hid ht
  have HS2 := Lib.hid hs2
  have HT2 := Lib.hid ht2
  have HW0 := Lib.hid (Two.new w0 #[.bool b, .string s, .bool c, .string t] #[.bool b2, .string s2, .bool c2, .string t2])
  clear hs ht hs2 ht2
  go_enter Tryz.func12, Tryz.ntmps12
  go_wp2_with fail
  refine (both_mul b c b2 c2 s t s2 t2 HS.out HT.out HS2.out HT2.out).mono ?_
  rintro e w1 ⟨v, k, rfl, ha, hb⟩
  obtain ⟨pb, ps, pc, pt, rfl⟩ := ha.agg
  have HA := Lib.hid ha
  have HW1 := Lib.hid (HW0.out.on hb)
  clear ha hb
  have hp0 := HW1.out.place.cell 0 _ rfl
  have hp1 := HW1.out.place.cell 1 _ rfl
  have hp2 := HW1.out.place.cell 2 _ rfl
  have hp3 := HW1.out.place.cell 3 _ rfl
  have hf := HW1.out.place.frozen
  go_wp2
  have hk := HW1.out.place.put4 (.bool pb) (.string ps) (.bool pc) (.string pt)
  have k0 := hk.cell 0 _ rfl
  have k1 := hk.cell 1 _ rfl
  have k2 := hk.cell 2 _ rfl
  have k3 := hk.cell 3 _ rfl
  exact bodyPost_ret (v := .tuple #[.agg #[.bool pb, .string ps, .bool pc, .string pt], .int .i64 k]) (by simp [results, Tryz.results12, go_sem, k0, k1, k2, k3]) rfl ⟨_, _, rfl, HA.out, below_put4 HW1.out.below (by omega) _ _ _ _⟩

/-- What is answered of a quotient. -/
def DivAns (va vb v : Value) (k : Int) : Prop :=
  (IsFrac va ∧ vb = fracV 0 ∧ v = frac0 ∧ k = 5) ∨ (vb ≠ fracV 0 ∧ BinAns (fun x y => x / y) va vb v k) ∨ ((¬ IsFrac va ∨ ¬ IsFrac vb) ∧ v = frac0 ∧ k = 2)
def DivPostF (va vb : Value) (w : World) (e : Ending) (w' : World) : Prop :=
  ∃ v k, e = .returned (.tuple #[v, .int .i64 k]) ∧ DivAns va vb v k ∧ Below w.heap.size w w'
theorem fracV_inj {x y : Rat} (h : fracV x = fracV y) : x = y := by
  obtain ⟨h1, h2, _, h4⟩ := agg4 h
  have e1 : x.num = y.num := sg_inj h1 (mag_inj h2)
  have e2 : x.den = y.den := mag_inj h4
  exact Rat.ext e1 e2
theorem fit_zero : Fit 0 := ⟨Nat.le_trans (mag_size_le.2 (show (0 : Rat).num.natAbs < 256 ^ 1 by decide)) (by decide), Nat.le_trans (mag_size_le.2 (show (0 : Rat).den < 256 ^ 1 by decide)) (by decide)⟩
set_option maxHeartbeats 3200000 in
set_option maxRecDepth 100000 in
theorem FDiv_any {w0 : World} (b c b2 c2 : Bool) (s t s2 t2 : ByteArray) (hs : s.size ≤ maxLen) (ht : t.size ≤ maxLen) (hs2 : s2.size ≤ maxLen) (ht2 : t2.size ≤ maxLen) :
    Calls Tryz.prog 13 #[.agg #[.bool b, .string s, .bool c, .string t], .agg #[.bool b2, .string s2, .bool c2, .string t2]] w0 (DivPostF (.agg #[.bool b, .string s, .bool c, .string t]) (.agg #[.bool b2, .string s2, .bool c2, .string t2]) w0) := by
  have HS := Lib.hid hs
  have HT := Lib.hid ht
  have HS2 := Lib.hid hs2
  have HT2 := Lib.hid ht2
  have HW0 := Lib.hid (Two.new w0 #[.bool b, .string s, .bool c, .string t] #[.bool b2, .string s2, .bool c2, .string t2])
  clear hs ht hs2 ht2
  go_enter Tryz.func13, Tryz.ntmps13
  go_wp2_with fail
  refine (May_any b c s t HS.out HT.out).mono ?_
  rintro e w1 ⟨r, rfl, hr, hb⟩
  have HW1 := Lib.hid (HW0.out.on hb)
  have HR := Lib.hid hr
  clear hb hr
  cases r
  · have HN1 : Hid (¬ IsFrac (.agg #[.bool b, .string s, .bool c, .string t])) := fun h => Bool.noConfusion (HR.out.2 h)
    clear HR
    have hc0 := HW1.out.one.cell 0 (.bool b) rfl
    have hc1 := HW1.out.one.cell 1 (.string s) rfl
    have hc2 := HW1.out.one.cell 2 (.bool c) rfl
    have hc3 := HW1.out.one.cell 3 (.string t) rfl
    have hc4 := HW1.out.two.cell 0 (.bool b2) rfl
    have hc5 := HW1.out.two.cell 1 (.string s2) rfl
    have hc6 := HW1.out.two.cell 2 (.bool c2) rfl
    have hc7 := HW1.out.two.cell 3 (.string t2) rfl
    go_wp2_with fail
    refine (both_quo b c b2 c2 s t s2 t2 HS.out HT.out HS2.out HT2.out (fun h => absurd h HN1.out)).mono ?_
    rintro e wq ⟨v, k, rfl, ha, hb⟩
    obtain ⟨pb, ps, pc, pt, rfl⟩ := ha.agg
    have HA := Lib.hid ha
    have HW9 := Lib.hid (HW1.out.on hb)
    clear ha hb hc0 hc1 hc2 hc3 hc4 hc5 hc6 hc7
    have hp0 := HW9.out.place.cell 0 _ rfl
    have hp1 := HW9.out.place.cell 1 _ rfl
    have hp2 := HW9.out.place.cell 2 _ rfl
    have hp3 := HW9.out.place.cell 3 _ rfl
    have hf := HW9.out.place.frozen
    go_wp2
    have hk := HW9.out.place.put4 (.bool pb) (.string ps) (.bool pc) (.string pt)
    have k0 := hk.cell 0 _ rfl
    have k1 := hk.cell 1 _ rfl
    have k2 := hk.cell 2 _ rfl
    have k3 := hk.cell 3 _ rfl
    exact bodyPost_ret (v := .tuple #[.agg #[.bool pb, .string ps, .bool pc, .string pt], .int .i64 k]) (by simp [results, Tryz.results13, go_sem, k0, k1, k2, k3]) rfl ⟨_, _, rfl, .inr (.inr (HA.out.elim (fun h => absurd HN1.out (by obtain ⟨x, y, h1, h2, h3, h4, _⟩ := h; exact fun k => k ⟨_, h1, h3⟩)) id)), below_put4 HW9.out.below (by omega) _ _ _ _⟩

  have HF1 : Hid (IsFrac (.agg #[.bool b, .string s, .bool c, .string t])) := by first | exact HR.out.1 rfl | exact HR.out.1 trivial
  clear HR
  have hc4 := HW1.out.two.cell 0 (.bool b2) rfl
  have hc5 := HW1.out.two.cell 1 (.string s2) rfl
  have hc6 := HW1.out.two.cell 2 (.bool c2) rfl
  have hc7 := HW1.out.two.cell 3 (.string t2) rfl
  go_wp2_with fail
  refine (May_any b2 c2 s2 t2 HS2.out HT2.out).mono ?_
  rintro e w2 ⟨r, rfl, hr, hb⟩
  have HW2 := Lib.hid (HW1.out.on hb)
  have HR := Lib.hid hr
  clear hb hr hc4 hc5 hc6 hc7
  cases r
  · have HN2 : Hid (¬ IsFrac (.agg #[.bool b2, .string s2, .bool c2, .string t2])) := fun h => Bool.noConfusion (HR.out.2 h)
    clear HR
    have hc0 := HW2.out.one.cell 0 (.bool b) rfl
    have hc1 := HW2.out.one.cell 1 (.string s) rfl
    have hc2 := HW2.out.one.cell 2 (.bool c) rfl
    have hc3 := HW2.out.one.cell 3 (.string t) rfl
    have hc4 := HW2.out.two.cell 0 (.bool b2) rfl
    have hc5 := HW2.out.two.cell 1 (.string s2) rfl
    have hc6 := HW2.out.two.cell 2 (.bool c2) rfl
    have hc7 := HW2.out.two.cell 3 (.string t2) rfl
    go_wp2_with fail
    refine (both_quo b c b2 c2 s t s2 t2 HS.out HT.out HS2.out HT2.out (fun _ y hy e => HN2.out ⟨y, by rw [e]; exact fit_zero, hy⟩)).mono ?_
    rintro e wq ⟨v, k, rfl, ha, hb⟩
    obtain ⟨pb, ps, pc, pt, rfl⟩ := ha.agg
    have HA := Lib.hid ha
    have HW9 := Lib.hid (HW2.out.on hb)
    clear ha hb hc0 hc1 hc2 hc3 hc4 hc5 hc6 hc7
    have hp0 := HW9.out.place.cell 0 _ rfl
    have hp1 := HW9.out.place.cell 1 _ rfl
    have hp2 := HW9.out.place.cell 2 _ rfl
    have hp3 := HW9.out.place.cell 3 _ rfl
    have hf := HW9.out.place.frozen
    go_wp2
    have hk := HW9.out.place.put4 (.bool pb) (.string ps) (.bool pc) (.string pt)
    have k0 := hk.cell 0 _ rfl
    have k1 := hk.cell 1 _ rfl
    have k2 := hk.cell 2 _ rfl
    have k3 := hk.cell 3 _ rfl
    exact bodyPost_ret (v := .tuple #[.agg #[.bool pb, .string ps, .bool pc, .string pt], .int .i64 k]) (by simp [results, Tryz.results13, go_sem, k0, k1, k2, k3]) rfl ⟨_, _, rfl, .inr (.inr (HA.out.elim (fun h => absurd HN2.out (by obtain ⟨x, y, h1, h2, h3, h4, _⟩ := h; exact fun k => k ⟨_, h2, h4⟩)) id)), below_put4 HW9.out.below (by omega) _ _ _ _⟩

  obtain ⟨y, hy⟩ := parts_of (by first | exact HR.out.1 rfl | exact HR.out.1 trivial)
  have HY := Lib.hid hy
  clear HR hy
  have hc4 := HW2.out.two.cell 0 (.bool b2) rfl
  have hc5 := HW2.out.two.cell 1 (.string s2) rfl
  have hc6 := HW2.out.two.cell 2 (.bool c2) rfl
  have hc7 := HW2.out.two.cell 3 (.string t2) rfl
  go_wp2_with fail
  refine (FSign_any b2 c2 s2 t2 HS2.out HT2.out).mono ?_
  rintro e w3 ⟨k, rfl, hk, hb⟩
  have HW3 := Lib.hid (HW2.out.on hb)
  have hk2 : k = y.num.sign := by
    rcases hk with ⟨z, _, h1, h2⟩ | ⟨h1, _⟩
    · rw [HY.out.val] at h1; rw [h2, fracV_inj h1]
    · exact absurd HY.out.isFrac h1
  have HK := Lib.hid hk2
  clear hb hk hk2 hc4 hc5 hc6 hc7
  by_cases hk0 : k = 0
  · have hy0 : y = 0 := Rat.num_eq_zero.1 (Int.sign_eq_zero_iff_zero.1 (HK.out.symm.trans hk0))
    have HY0 := Lib.hid hy0
    subst hk0
    clear hy0
    have hp0 := HW3.out.place.cell 0 _ rfl
    have hp1 := HW3.out.place.cell 1 _ rfl
    have hp2 := HW3.out.place.cell 2 _ rfl
    have hp3 := HW3.out.place.cell 3 _ rfl
    have hf := HW3.out.place.frozen
    go_wp2
    have hk := HW3.out.place.put4 (.bool false) (.string ⟨#[]⟩) (.bool false) (.string ⟨#[]⟩)
    have k0 := hk.cell 0 _ rfl
    have k1 := hk.cell 1 _ rfl
    have k2 := hk.cell 2 _ rfl
    have k3 := hk.cell 3 _ rfl
    exact bodyPost_ret (v := .tuple #[.agg #[.bool false, .string ⟨#[]⟩, .bool false, .string ⟨#[]⟩], .int .i64 5]) (by simp [results, Tryz.results13, go_sem, k0, k1, k2, k3]) rfl ⟨_, _, rfl, .inl ⟨HF1.out, by rw [HY.out.val, HY0.out], rfl, rfl⟩, below_put4 HW3.out.below (by omega) _ _ _ _⟩
  
  · have hy0 : y ≠ 0 := fun e => hk0 (by rw [HK.out, e]; rfl)
    have HY0 := Lib.hid hy0
    have hkk : (k == 0) = false := by rw [beq_eq_false_iff_ne]; exact hk0
    clear hy0
    have hc0 := HW3.out.one.cell 0 (.bool b) rfl
    have hc1 := HW3.out.one.cell 1 (.string s) rfl
    have hc2 := HW3.out.one.cell 2 (.bool c) rfl
    have hc3 := HW3.out.one.cell 3 (.string t) rfl
    have hc4 := HW3.out.two.cell 0 (.bool b2) rfl
    have hc5 := HW3.out.two.cell 1 (.string s2) rfl
    have hc6 := HW3.out.two.cell 2 (.bool c2) rfl
    have hc7 := HW3.out.two.cell 3 (.string t2) rfl
    go_wp2_with fail
    refine (both_quo b c b2 c2 s t s2 t2 HS.out HT.out HS2.out HT2.out (fun _ z hz => by rw [HY.out.val] at hz; rw [← fracV_inj hz]; exact HY0.out)).mono ?_
    rintro e wq ⟨v, k, rfl, ha, hb⟩
    obtain ⟨pb, ps, pc, pt, rfl⟩ := ha.agg
    have HA := Lib.hid ha
    have HW9 := Lib.hid (HW3.out.on hb)
    clear ha hb hc0 hc1 hc2 hc3 hc4 hc5 hc6 hc7
    have hp0 := HW9.out.place.cell 0 _ rfl
    have hp1 := HW9.out.place.cell 1 _ rfl
    have hp2 := HW9.out.place.cell 2 _ rfl
    have hp3 := HW9.out.place.cell 3 _ rfl
    have hf := HW9.out.place.frozen
    go_wp2
    have hk := HW9.out.place.put4 (.bool pb) (.string ps) (.bool pc) (.string pt)
    have k0 := hk.cell 0 _ rfl
    have k1 := hk.cell 1 _ rfl
    have k2 := hk.cell 2 _ rfl
    have k3 := hk.cell 3 _ rfl
    exact bodyPost_ret (v := .tuple #[.agg #[.bool pb, .string ps, .bool pc, .string pt], .int .i64 k]) (by simp [results, Tryz.results13, go_sem, k0, k1, k2, k3]) rfl ⟨_, _, rfl, .inr (.inl ⟨fun h => HY0.out (fracV_inj (HY.out.val.symm.trans h)), HA.out⟩), below_put4 HW9.out.below (by omega) _ _ _ _⟩


def CmpAns (va vb : Value) (n k : Int) : Prop := (∃ x y, Fit x ∧ Fit y ∧ va = fracV x ∧ vb = fracV y ∧ n = cmpQ x y ∧ k = 0) ∨ ((¬ IsFrac va ∨ ¬ IsFrac vb) ∧ n = 0 ∧ k = 2)
def CmpPost (va vb : Value) (w : World) (e : Ending) (w' : World) : Prop := ∃ n k, e = .returned (.tuple #[.int .i64 n, .int .i64 k]) ∧ CmpAns va vb n k ∧ Below w.heap.size w w'
/-- Two fractions. -/
structure Duo (w0 w : World) (v1 v2 : Array Value) : Prop where
  below : Below w0.heap.size w0 w
  one : BoxAt w w0.heap.size v1 25
  two : BoxAt w (w0.heap.size + 1) v2 25
theorem Duo.new (w0 : World) (v1 v2 : Array Value) : Duo w0 ((w0.alloc (.cells v1 25)).alloc (.cells v2 25)) v1 v2 := by
  have b1 := below_new w0 (.cells v1 25)
  have b2 := below_new (w0.alloc (.cells v1 25)) (.cells v2 25)
  exact ⟨b1.trans (b2.mono (by simp)), (BoxAt.new w0 _ _).on b2, BoxAt.new_at _ _ (by simp)⟩
theorem Duo.on {w0 w w' : World} {v1 v2 : Array Value} (h : Duo w0 w v1 v2) (k : Below w.heap.size w w') : Duo w0 w' v1 v2 :=
  ⟨h.below.trans (k.mono h.below.size), h.one.on k, h.two.on k⟩
set_option maxHeartbeats 3200000 in
set_option maxRecDepth 100000 in
theorem FCmp_any {w0 : World} (b c b2 c2 : Bool) (s t s2 t2 : ByteArray) (hs : s.size ≤ maxLen) (ht : t.size ≤ maxLen) (hs2 : s2.size ≤ maxLen) (ht2 : t2.size ≤ maxLen) :
    Calls Tryz.prog 14 #[.agg #[.bool b, .string s, .bool c, .string t], .agg #[.bool b2, .string s2, .bool c2, .string t2]] w0 (CmpPost (.agg #[.bool b, .string s, .bool c, .string t]) (.agg #[.bool b2, .string s2, .bool c2, .string t2]) w0) := by
  have HS := Lib.hid hs
  have HT := Lib.hid ht
  have HS2 := Lib.hid hs2
  have HT2 := Lib.hid ht2
  have HW0 := Lib.hid (Duo.new w0 #[.bool b, .string s, .bool c, .string t] #[.bool b2, .string s2, .bool c2, .string t2])
  clear hs ht hs2 ht2
  go_enter Tryz.func14, Tryz.ntmps14
  go_wp2_with fail
  refine (May_any b c s t HS.out HT.out).mono ?_
  rintro e w1 ⟨r, rfl, hr, hb⟩
  have HW1 := Lib.hid (HW0.out.on hb)
  have HR := Lib.hid hr
  clear hb hr
  cases r
  · go_wp2
    go_ret2
    exact ⟨0, 2, rfl, .inr ⟨.inl fun h => Bool.noConfusion (HR.out.2 h), rfl, rfl⟩, HW1.out.below⟩
  have hc4 := HW1.out.two.cell 0 (.bool b2) rfl
  have hc5 := HW1.out.two.cell 1 (.string s2) rfl
  have hc6 := HW1.out.two.cell 2 (.bool c2) rfl
  have hc7 := HW1.out.two.cell 3 (.string t2) rfl
  go_wp2_with fail
  refine (May_any b2 c2 s2 t2 HS2.out HT2.out).mono ?_
  rintro e w2 ⟨r, rfl, hr, hb⟩
  have HW2 := Lib.hid (HW1.out.on hb)
  have HR2 := Lib.hid hr
  clear hb hr hc4 hc5 hc6 hc7
  cases r
  · go_wp2
    go_ret2
    exact ⟨0, 2, rfl, .inr ⟨.inr fun h => Bool.noConfusion (HR2.out.2 h), rfl, rfl⟩, HW2.out.below⟩
  obtain ⟨x, hx⟩ := parts_of (by first | exact HR.out.1 rfl | exact HR.out.1 trivial)
  obtain ⟨y, hy⟩ := parts_of (by first | exact HR2.out.1 rfl | exact HR2.out.1 trivial)
  have HX := Lib.hid hx
  have HY := Lib.hid hy
  clear hx hy HR HR2 HW1 HW0
  go_wp2
  refine wp_region_ghost 4 (GC w2.heap.size w2 [1, 3]) (fun γ wq _ wr => GE w2.heap.size [] γ wq wr) (fun i γ wq v => match i with
      | 0 => v = .agg #[.bool b, .string s, .bool c, .string t]
      | 1 => VQ (x) wq v
      | 2 => v = .agg #[.bool b2, .string s2, .bool c2, .string t2]
      | 3 => VQ (y) wq v
      | _ => True) (by kernel_rfl) (by kernel_rfl) (by kernel_rfl) (GC.start _ (Nat.le_refl _)) ?_ ⟨?_, ?_, ?_, ?_, trivial⟩ ?_
  · intro i γ w1 k xq w2 v hC hC2 hE hk hi hV
    match i with
    | 0 => exact hV
    | 1 => exact VQ.stable 1 hV hC hE hi rfl
    | 2 => exact hV
    | 3 => exact VQ.stable 3 hV hC hE hi rfl
    | _ + 4 => trivial
  · intro a' γ w' hag hC hk hd K hK
    have e2 : a'.tmps.getD 2 undef = .pointer (some ⟨w0.heap.size, 0, none⟩) := hag 2 rfl
    have hT := HW2.out.on hC.below
    have hc0 := hT.one.cell 0 (.bool b) rfl
    have hc1 := hT.one.cell 1 (.string s) rfl
    have hc2 := hT.one.cell 2 (.bool c) rfl
    have hc3 := hT.one.cell 3 (.string t) rfl
    have HK := Lib.hid (hK (.agg #[.bool b, .string s, .bool c, .string t]) _ (hC.step 0 _ rfl (Below.refl _ _)) (GE.refl _ _ _ _) rfl)
    clear hK hC hT
    go_step
    exact HK.out
  · intro a' γ w' hag hC hk hd K hK
    have e14 : a'.tmps.getD 14 undef = .agg #[.bool b, .string s, .bool c, .string t] := hd.1.2
    have hx := Lib.hid (rat_frac (w := w') HX.out)
    go_step
    refine hx.out.mono ?_
    rintro e w2 ⟨g, rfl, h3, h1, h2⟩
    exact hK _ _ (hC.own 1 _ _ h2 h1.slot.lt (.inr h3)) (GE.below _ _ h2) ⟨_, rfl, h1⟩
  · intro a' γ w' hag hC hk hd K hK
    have e3 : a'.tmps.getD 3 undef = .pointer (some ⟨w0.heap.size + 1, 0, none⟩) := hag 3 rfl
    have hT := HW2.out.on hC.below
    have hc0 := hT.two.cell 0 (.bool b2) rfl
    have hc1 := hT.two.cell 1 (.string s2) rfl
    have hc2 := hT.two.cell 2 (.bool c2) rfl
    have hc3 := hT.two.cell 3 (.string t2) rfl
    have HK := Lib.hid (hK (.agg #[.bool b2, .string s2, .bool c2, .string t2]) _ (hC.step 2 _ rfl (Below.refl _ _)) (GE.refl _ _ _ _) rfl)
    clear hK hC hT
    go_step
    exact HK.out
  · intro a' γ w' hag hC hk hd K hK
    have e16 : a'.tmps.getD 16 undef = .agg #[.bool b2, .string s2, .bool c2, .string t2] := hd.1.2
    have hx := Lib.hid (rat_frac (w := w') HY.out)
    go_step
    refine hx.out.mono ?_
    rintro e w2 ⟨g, rfl, h3, h1, h2⟩
    exact hK _ _ (hC.own 3 _ _ h2 h1.slot.lt (.inr h3)) (GE.below _ _ h2) ⟨_, rfl, h1⟩
  · intro γ u w' hC hgh hall
    obtain ⟨u0, u1, u2, u3, _⟩ := hall
    have u0 : u 0 = .agg #[.bool b, .string s, .bool c, .string t] := u0
    obtain ⟨g15, eu1, h15⟩ := u1
    have u1 : u 1 = .pointer (some ⟨g15, 0, none⟩) := eu1
    have u2 : u 2 = .agg #[.bool b2, .string s2, .bool c2, .string t2] := u2
    obtain ⟨g17, eu3, h17⟩ := u3
    have u3 : u 3 = .pointer (some ⟨g17, 0, none⟩) := eu3
    simp only [fillR, List.take_succ_cons, List.take_zero, Act.put, List.setIfInBounds_toArray, List.set_cons_succ, List.set_cons_zero, Nat.zero_add, Nat.reduceAdd, u0, u1, u2, u3]
    clear u0 u1 u2 u3
    have HC := Lib.hid (HW2.out.on hC.below)
    have H15 := Lib.hid h15
    have H17 := Lib.hid h17
    clear hC h15 h17
    go_wp2_with fail
    refine (rCmp_any H15.out H17.out HX.out.fit.okR HY.out.fit.okR).mono ?_
    rintro e w3 ⟨rfl, hb⟩
    have HB := Lib.hid (HC.out.on hb).below
    clear hb
    go_wp2
    go_ret2
    exact ⟨_, _, rfl, .inl ⟨x, y, HX.out.fit, HY.out.fit, HX.out.val, HY.out.val, rfl, rfl⟩, HB.out⟩
end Go.Proofs.YtaenedjanckaiaaGreat
