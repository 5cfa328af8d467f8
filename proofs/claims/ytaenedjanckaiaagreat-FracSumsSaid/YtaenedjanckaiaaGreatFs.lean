/- Package frac: told, short, answer. -/
import Derived.Test.YtaenedjanckaiaaGreatFr
namespace Go.Proofs.YtaenedjanckaiaaGreat
set_option linter.unnecessarySimpa false
set_option linter.unusedVariables false
set_option linter.unusedSimpArgs false
open Go.RowKit

theorem wholeV_nat (d : Nat) : wholeV (d : Int) = .agg #[.bool false, .string (mag d)] := by
  unfold wholeV
  rw [show decide ((d : Int) < 0) = false by simp, Int.natAbs_natCast]
theorem back_agg {w : World} {b o : Nat} {n : Int} (hx : IntAt w b o n) (hn : Okn n) :
    Calls Tryz.prog 68 #[.pointer (some ⟨b, o, none⟩)] w fun e w' => ∃ p s, e = .returned (.agg #[.bool p, .string s]) ∧ Hid (p = decide (n < 0)) ∧ Hid (s = mag n.natAbs) ∧ Below w.heap.size w w' :=
  (back_any hx hn).mono fun e w' h => ⟨_, _, h.1, rfl, rfl, h.2⟩

set_option maxRecDepth 100000 in
theorem told_any {w : World} {b o : Nat} {q : Rat} (hx : RatAt w b o q) (hq : OkR q) :
    Calls Tryz.prog 58 #[.pointer (some ⟨b, o, none⟩)] w fun e w' => ∃ p s t, e = .returned (.agg #[.bool p, .string s, .bool false, .string t]) ∧ Hid (p = decide (q.num < 0)) ∧ Hid (s = mag q.num.natAbs) ∧ Hid (t = mag q.den) ∧ Below w.heap.size w w' := by
  have HB := Lib.hid (below_new w (.cells #[.bool false, .string ⟨#[]⟩, .bool false, .string ⟨#[]⟩] 25))
  have HC := Lib.hid (BoxAt.new w #[.bool false, .string ⟨#[]⟩, .bool false, .string ⟨#[]⟩] 25)
  have HX := Lib.hid (hx.on HB.out)
  have HQ := Lib.hid hq
  clear hx hq
  go_enter Tryz.func58, Tryz.ntmps58
  go_wp2_with fail
  refine (rNum_any HX.out).mono ?_
  rintro e w1 ⟨g1, rfl, hg1, h1, hb1⟩
  have HB1 := Lib.hid hb1
  have H1 := Lib.hid h1
  clear h1 hb1
  go_wp2_with fail
  refine (back_agg H1.out HQ.out.num).mono ?_
  rintro e w2 ⟨p1, s1, rfl, hp1, hs1, hb2⟩
  have HB2 := Lib.hid (HB1.out.trans (hb2.mono HB1.out.size))
  clear hb2
  go_wp2_with fail
  refine (rDenom_any (HX.out.on HB2.out)).mono ?_
  rintro e w3 ⟨g3, rfl, hg3, h3, hb3⟩
  have HB3 := Lib.hid (HB2.out.trans (hb3.mono HB2.out.size))
  have H3 := Lib.hid h3
  clear h3 hb3
  go_wp2_with fail
  refine (back_agg H3.out HQ.out.den).mono ?_
  rintro e w4 ⟨p2, s2, rfl, hp2, hs2, hb4⟩
  have HB4 := Lib.hid (HB3.out.trans (hb4.mono HB3.out.size))
  clear hb4
  have hc := fun i v h => (HC.out.on HB4.out).cell i v h
  have hc0 := hc 0 _ rfl
  have hc1 := hc 1 _ rfl
  have hc2 := hc 2 _ rfl
  have hc3 := hc 3 _ rfl
  have hf := (HC.out.on HB4.out).frozen
  have HK := Lib.hid (((((HC.out.on HB4.out).set 0 (.bool p1)).set 1 (.string s1)).set 2 (.bool p2)).set 3 (.string s2))
  have HW := Lib.hid (HB.out.trans (HB4.out.mono HB.out.size))
  clear hc
  go_wp2
  have h0 := HK.out.cell 0 (.bool p1) rfl
  have h1 := HK.out.cell 1 (.string s1) rfl
  have h2 := HK.out.cell 2 (.bool p2) rfl
  have h3 := HK.out.cell 3 (.string s2) rfl
  have hp : p2 = false := by rw [hp2.out]; simp
  subst hp
  exact bodyPost_ret (v := .agg #[.bool p1, .string s1, .bool false, .string s2]) (by simp [results, Tryz.results58, go_sem, h0, h1, h2, h3]) rfl ⟨_, _, _, rfl, hp1, hs1, by rw [Hid, hs2.out, Int.natAbs_natCast], (((HW.out.setCell (Nat.le_refl _) _).setCell (Nat.le_refl _) _).setCell (Nat.le_refl _) _).setCell (Nat.le_refl _) _⟩

theorem shortF_any {w : World} (b : Bool) (s : ByteArray) (p : Bool) (hp : decide (s.size ≤ 1024) = p) :
    Calls Tryz.prog 56 #[.agg #[.bool b, .string s]] w fun e w' => e = .returned (.bool p) ∧ Below w.heap.size w w' := by
  have HB := Lib.hid (below_new w (.cells #[.bool b, .string s] 23))
  have hq : decide ((s.size : Int) ≤ 1024) = p := by
    rw [← hp]
    exact decide_eq_decide.2 (by omega)
  clear hp
  go_enter Tryz.func56, Tryz.ntmps56
  go_wp2
  go_ret
  refine ⟨?_, HB.out⟩
  rw [← hq]
  rfl

def frac0 : Value := .agg #[.bool false, .string ⟨#[]⟩, .bool false, .string ⟨#[]⟩]
/-- May it be answered? -/
def Fit (q : Rat) : Prop := (mag q.num.natAbs).size ≤ 1024 ∧ (mag q.den).size ≤ 1024
/-- What is answered of a fraction. -/
def Ans (q : Rat) (v : Value) (k : Int) : Prop := Fit q ∧ v = fracV q ∧ k = 0 ∨ ¬ Fit q ∧ v = frac0 ∧ k = 4

set_option maxRecDepth 100000 in
theorem answer_any {w : World} {b o : Nat} {q : Rat} (hx : RatAt w b o q) (hq : OkR q) :
    Calls Tryz.prog 74 #[.pointer (some ⟨b, o, none⟩)] w fun e w' => ∃ v k, e = .returned (.tuple #[v, .int .i64 k]) ∧ Ans q v k ∧ Below w.heap.size w w' := by
  have HB := Lib.hid (below_new w (.cells #[.bool false, .string ⟨#[]⟩, .bool false, .string ⟨#[]⟩] 25))
  have HC := Lib.hid (BoxAt.new w #[.bool false, .string ⟨#[]⟩, .bool false, .string ⟨#[]⟩] 25)
  have HX := Lib.hid (hx.on HB.out)
  have HQ := Lib.hid hq
  clear hx hq
  go_enter Tryz.func74, Tryz.ntmps74
  go_wp2_with fail
  refine (told_any HX.out HQ.out).mono ?_
  rintro e w1 ⟨p, s, t, rfl, hp, hs, ht, hb1⟩
  have HB1 := Lib.hid hb1
  have hsz := hb1.size
  rw [size_alloc] at hsz
  have HC1 := Lib.hid (HC.out.on hb1)
  clear hb1
  have HBW := Lib.hid (below_new w1 (.cells #[.bool p, .string s, .bool false, .string t] 25))
  have HX1 := Lib.hid (BoxAt.new w1 #[.bool p, .string s, .bool false, .string t] 25)
  have HCW := Lib.hid (HC1.out.on HBW.out)
  have HWW : Hid (Below w.heap.size w (w1.alloc (.cells #[.bool p, .string s, .bool false, .string t] 25))) := (HB.out.trans (HB1.out.mono (by simp))).trans (HBW.out.mono (by omega))
  by_cases h1 : s.size ≤ 1024
  · go_wp2_with fail
    refine (shortF_any p s true (by simpa using h1)).mono ?_
    rintro e w2 ⟨rfl, hb2⟩
    have HX2 := Lib.hid (HX1.out.on hb2)
    have HC2 := Lib.hid (HCW.out.on hb2)
    have HW2 := Lib.hid (HWW.out.trans (hb2.mono HWW.out.size))
    have hc2 := HX2.out.cell 2 (.bool false) rfl
    have hc3 := HX2.out.cell 3 (.string t) rfl
    clear hb2
    obtain ⟨r, hr⟩ : ∃ r, r = decide (t.size ≤ 1024) := ⟨_, rfl⟩
    have HR := Lib.hid hr
    go_wp2_with fail
    refine (shortF_any false t r hr.symm).mono ?_
    rintro e w3 ⟨rfl, hb3⟩
    have HX3 := Lib.hid (HX2.out.on hb3)
    have HC3 := Lib.hid (HC2.out.on hb3)
    have HW3 := Lib.hid (HW2.out.trans (hb3.mono HW2.out.size))
    have hx0 := HX3.out.cell 0 (.bool p) rfl
    have hx1 := HX3.out.cell 1 (.string s) rfl
    have hx2 := HX3.out.cell 2 (.bool false) rfl
    have hx3 := HX3.out.cell 3 (.string t) rfl
    have hc0 := HC3.out.cell 0 _ rfl
    have hc1 := HC3.out.cell 1 _ rfl
    have hc2' := HC3.out.cell 2 _ rfl
    have hc3' := HC3.out.cell 3 _ rfl
    have hf := HC3.out.frozen
    clear hb3 hr hc2 hc3
    cases r
    · have hfit : ¬ Fit q := fun h => by have := HR.out; rw [ht.out] at this; exact of_decide_eq_false this.symm h.2
      have HF := Lib.hid hfit
      have HK := Lib.hid ((((HC3.out.set 0 (.bool false)).set 1 (.string ⟨#[]⟩)).set 2 (.bool false)).set 3 (.string ⟨#[]⟩))
      clear hfit
      go_wp2
      have k0 := HK.out.cell 0 _ rfl
      have k1 := HK.out.cell 1 _ rfl
      have k2 := HK.out.cell 2 _ rfl
      have k3 := HK.out.cell 3 _ rfl
      exact bodyPost_ret (v := .tuple #[frac0, .int .i64 4]) (by simp [results, Tryz.results74, go_sem, k0, k1, k2, k3, frac0]) rfl ⟨_, _, rfl, .inr ⟨HF.out, rfl, rfl⟩, (((HW3.out.setCell (Nat.le_refl _) _).setCell (Nat.le_refl _) _).setCell (Nat.le_refl _) _).setCell (Nat.le_refl _) _⟩
    · have hfit : Fit q := ⟨by rw [← hs.out]; exact h1, by rw [← ht.out]; exact of_decide_eq_true HR.out.symm⟩
      have HF := Lib.hid hfit
      have HK := Lib.hid ((((HC3.out.set 0 (.bool p)).set 1 (.string s)).set 2 (.bool false)).set 3 (.string t))
      clear hfit
      go_wp2
      have k0 := HK.out.cell 0 _ rfl
      have k1 := HK.out.cell 1 _ rfl
      have k2 := HK.out.cell 2 _ rfl
      have k3 := HK.out.cell 3 _ rfl
      exact bodyPost_ret (v := .tuple #[.agg #[.bool p, .string s, .bool false, .string t], .int .i64 0]) (by simp [results, Tryz.results74, go_sem, k0, k1, k2, k3]) rfl ⟨_, _, rfl, .inl ⟨HF.out, by rw [hp.out, hs.out, ht.out]; rfl, rfl⟩, (((HW3.out.setCell (Nat.le_refl _) _).setCell (Nat.le_refl _) _).setCell (Nat.le_refl _) _).setCell (Nat.le_refl _) _⟩
  · go_wp2_with fail
    refine (shortF_any p s false (by simpa using h1)).mono ?_
    rintro e w2 ⟨rfl, hb2⟩
    have HC3 := Lib.hid (HCW.out.on hb2)
    have HW3 := Lib.hid (HWW.out.trans (hb2.mono HWW.out.size))
    have hc0 := HC3.out.cell 0 _ rfl
    have hc1 := HC3.out.cell 1 _ rfl
    have hc2' := HC3.out.cell 2 _ rfl
    have hc3' := HC3.out.cell 3 _ rfl
    have hf := HC3.out.frozen
    have HF : Hid (¬ Fit q) := fun h => h1 (by rw [hs.out]; exact h.1)
    have HK := Lib.hid ((((HC3.out.set 0 (.bool false)).set 1 (.string ⟨#[]⟩)).set 2 (.bool false)).set 3 (.string ⟨#[]⟩))
    clear hb2
    go_wp2
    have k0 := HK.out.cell 0 _ rfl
    have k1 := HK.out.cell 1 _ rfl
    have k2 := HK.out.cell 2 _ rfl
    have k3 := HK.out.cell 3 _ rfl
    exact bodyPost_ret (v := .tuple #[frac0, .int .i64 4]) (by simp [results, Tryz.results74, go_sem, k0, k1, k2, k3, frac0]) rfl ⟨_, _, rfl, .inr ⟨HF.out, rfl, rfl⟩, (((HW3.out.setCell (Nat.le_refl _) _).setCell (Nat.le_refl _) _).setCell (Nat.le_refl _) _).setCell (Nat.le_refl _) _⟩
end Go.Proofs.YtaenedjanckaiaaGreat
