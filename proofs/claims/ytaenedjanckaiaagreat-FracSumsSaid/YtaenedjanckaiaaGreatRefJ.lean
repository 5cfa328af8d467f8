/- The reference of layer 2: DivMod where nothing is left. The reference of layer 3: Fits, Told, Of; the law's told. The reference of layer 3: Of. Package frac: Of. -/
import Derived.Test.YtaenedjanckaiaaGreatRefI
namespace Go.Proofs.YtaenedjanckaiaaGreat
set_option linter.unnecessarySimpa false
set_option linter.unusedVariables false
set_option linter.unusedSimpArgs false
section
open Go.RowKit

def DMPost (k : Int) (w0 : World) (e : Ending) (w' : World) : Prop := ∃ a u, e = .returned (.tuple #[.agg #[.bool a, .string u], .agg #[.bool false, .string ⟨#[]⟩]]) ∧ Hid (a = decide (k < 0)) ∧ Hid (u = mag k.natAbs) ∧ Below w0.heap.size w0 w'
theorem BoxAt.other {w : World} {g b i : Nat} {v : Value} {cs : Array Value} {t : TypeId} (h : BoxAt w g cs t) (hne : g ≠ b) : BoxAt (w.setCell ⟨b, i, none⟩ v) g cs t := by
  unfold BoxAt at h
  unfold BoxAt
  rw [Below.heap_setCell w ⟨b, i, none⟩ v g hne]
  exact h
set_option maxHeartbeats 6400000 in
set_option maxRecDepth 100000 in
theorem rdivmod_exact {w0 : World} (p q : Bool) (s t : ByteArray) (n m : Int) (hp : p = decide (n < 0)) (hq : q = decide (m < 0)) (hs : s = mag n.natAbs) (ht : t = mag m.natAbs) (h1 : s.size ≤ 100000) (h2 : t.size ≤ 100000) (hm : m ≠ 0) (hd : m ∣ n) :
    Calls Tryz.prog 87 #[.agg #[.bool p, .string s], .agg #[.bool q, .string t]] w0 (DMPost (n / m) w0) := by
  have hf0 := ((Frames.nil w0).push w0.heap.size #[.bool p, .string s] 23 rfl).push (w0.heap.size + 1) #[.bool q, .string t] 23 (by simp)
  have hf1 := (hf0.push (w0.heap.size + 1 + 1) #[.bool false, .string ⟨#[]⟩] 23 (by simp)).push (w0.heap.size + 1 + 1 + 1) #[.bool false, .string ⟨#[]⟩] 23 (by simp)
  have HB := Lib.hid (below_alloc_ (below_alloc_ (below_alloc_ (below_new w0 (.cells #[.bool p, .string s] 23)) (.cells #[.bool q, .string t] 23)) (.cells #[.bool false, .string ⟨#[]⟩] 23)) (.cells #[.bool false, .string ⟨#[]⟩] 23))
  have HF := Lib.hid hf1
  obtain ⟨N, hN⟩ : ∃ N, N = n.natAbs := ⟨_, rfl⟩
  obtain ⟨M, hM⟩ : ∃ M, M = m.natAbs := ⟨_, rfl⟩
  rw [← hN] at hs
  rw [← hM] at ht
  have HS := Lib.hid hs
  have HT := Lib.hid ht
  have HP := Lib.hid hp
  have HQ := Lib.hid hq
  have KN : Hid ((dig N).length ≤ 25001) := len_mag hs h1
  have KM : Hid ((dig M).length ≤ 25001) := len_mag ht h2
  have H1 : Hid (s.size ≤ 4294967296) := Nat.le_trans h1 (by decide)
  have H2 : Hid (t.size ≤ 4294967296) := Nat.le_trans h2 (by decide)
  have HM0 : Hid (0 < M) := by unfold Hid; omega
  have HR : Hid (N % M = 0) := by
    rw [hN, hM]
    exact Nat.mod_eq_zero_of_dvd (Int.natAbs_dvd_natAbs.2 hd)
  have HV : Hid (sg (p != q) (N / M) = n / m) := by rw [hp, hq, hN, hM]; exact sg_exact hd
  clear hs ht h1 h2 hf0 hf1 hp hq hN hM hm hd
  go_enter Tryz.func87, Tryz.ntmps87
  go_wp2
  generalize (((w0.alloc (.cells #[.bool p, .string s] 23)).alloc (.cells #[.bool q, .string t] 23)).alloc (.cells #[.bool false, .string ⟨#[]⟩] 23)).alloc (.cells #[.bool false, .string ⟨#[]⟩] 23) = w1 at HB HF ⊢
  refine wp_region_acts 11 (fun w' => Below w0.heap.size w0 w' ∧ Frames w' [(w0.heap.size + 1 + 1 + 1, #[.bool false, .string ⟨#[]⟩], 23), (w0.heap.size + 1 + 1, #[.bool false, .string ⟨#[]⟩], 23), (w0.heap.size + 1, #[.bool q, .string t], 23), (w0.heap.size, #[.bool p, .string s], 23)]) (fun w w' => Below w.heap.size w w') (fun i w v => match i with
      | 0 => v = .pointer (some ⟨w0.heap.size, 1, none⟩)
      | 1 => v = .string s
      | 2 => ∃ A c, v = .slice A (dig N).length c ∧ Words w (.slice A (dig N).length c) (dig N)
      | 3 => v = .pointer (some ⟨w0.heap.size + 1, 1, none⟩)
      | 4 => v = .string t
      | 5 => ∃ A c, v = .slice A (dig M).length c ∧ Words w (.slice A (dig M).length c) (dig M)
      | 6 => ∃ v1 v2, v = .tuple #[v1, v2] ∧ Words w v1 (dig (N / M)) ∧ Words w v2 (dig (N % M))
      | 7 => ∃ v1 v2, v = .tuple #[v1, v2] ∧ Words w v1 (dig (N / M)) ∧ Words w v2 (dig (N % M))
      | 8 => ∃ A l c, v = .slice A l c ∧ Words w (.slice A l c) (dig (N / M))
      | 9 => ∃ A l c, v = .slice A l c ∧ Words w (.slice A l c) (dig (N % M))
      | _ => ∃ A l c, v = .slice A l c ∧ Words w (.slice A l c) (dig (N / M))) (by kernel_rfl) (by kernel_rfl) (by kernel_rfl) ⟨HB.out.drew, HF.out.on (Below.drew (Below.refl _ _))⟩ (fun _ _ => (Below.refl _ _)) ?_ ⟨?_, ?_, ?_, ?_, ?_, ?_, ?_, ?_, ?_, ?_, ?_, trivial⟩ ?_
  · intro i w1 w2 v hC hC2 hE hV
    match i with
    | 0 => exact hV
    | 1 => exact hV
    | 2 => obtain ⟨A, c, e, h⟩ := hV; exact ⟨A, c, e, h.below hE⟩
    | 3 => exact hV
    | 4 => exact hV
    | 5 => obtain ⟨A, c, e, h⟩ := hV; exact ⟨A, c, e, h.below hE⟩
    | 6 => obtain ⟨a, b, e, h, k⟩ := hV; exact ⟨a, b, e, h.below hE, k.below hE⟩
    | 7 => obtain ⟨a, b, e, h, k⟩ := hV; exact ⟨a, b, e, h.below hE, k.below hE⟩
    | 8 => obtain ⟨A, l, c, e, h⟩ := hV; exact ⟨A, l, c, e, h.below hE⟩
    | 9 => obtain ⟨A, l, c, e, h⟩ := hV; exact ⟨A, l, c, e, h.below hE⟩
    | _ + 10 => obtain ⟨A, l, c, e, h⟩ := hV; exact ⟨A, l, c, e, h.below hE⟩
  · intro a' w' hag hC hd K hK
    have e2 : a'.tmps.getD 2 undef = .pointer (some ⟨w0.heap.size, 0, none⟩) := hag 2 rfl
    go_step
    exact hK _ _ hC ((Below.refl _ _)) rfl
  · intro a' w' hag hC hd K hK
    have e11 : a'.tmps.getD 11 undef = .pointer (some ⟨w0.heap.size, 1, none⟩) := hd.1
    have hc0 := (hC.2.get 3 rfl).cell 1 (.string s) rfl
    have HK := Lib.hid (hK (.string s) _ hC (Below.refl _ _) rfl)
    clear hK hC
    go_step
    exact HK.out
  · intro a' w' hag hC hd K hK
    have e12 : a'.tmps.getD 12 undef = .string s := hd.1
    go_step
    refine (words_any s N HS.out H1.out).mono ?_
    rintro e w2 ⟨A, c, rfl, h1, h2⟩
    exact hK _ _ ⟨hC.1.trans (h2.mono hC.1.size), hC.2.on h2⟩ h2 ⟨_, _, rfl, h1⟩
  · intro a' w' hag hC hd K hK
    have e3 : a'.tmps.getD 3 undef = .pointer (some ⟨w0.heap.size + 1, 0, none⟩) := hag 3 rfl
    go_step
    exact hK _ _ hC ((Below.refl _ _)) rfl
  · intro a' w' hag hC hd K hK
    have e14 : a'.tmps.getD 14 undef = .pointer (some ⟨w0.heap.size + 1, 1, none⟩) := hd.1
    have hc0 := (hC.2.get 2 rfl).cell 1 (.string t) rfl
    have HK := Lib.hid (hK (.string t) _ hC (Below.refl _ _) rfl)
    clear hK hC
    go_step
    exact HK.out
  · intro a' w' hag hC hd K hK
    have e15 : a'.tmps.getD 15 undef = .string t := hd.1
    go_step
    refine (words_any t M HT.out H2.out).mono ?_
    rintro e w2 ⟨A, c, rfl, h1, h2⟩
    exact hK _ _ ⟨hC.1.trans (h2.mono hC.1.size), hC.2.on h2⟩ h2 ⟨_, _, rfl, h1⟩
  · intro a' w' hag hC hd K hK
    obtain ⟨A13, c13, e13, h13⟩ := hd.1
    have e13 : a'.tmps.getD 13 undef = .slice A13 (dig N).length c13 := e13
    obtain ⟨A16, c16, e16, h16⟩ := hd.2.1
    have e16 : a'.tmps.getD 16 undef = .slice A16 (dig M).length c16 := e16
    go_step
    refine (divided_any h13 h16 HM0.out (Nat.le_trans KN.out (by decide))).mono ?_
    rintro e w2 ⟨v1, v2, rfl, h1, h2, h3⟩
    exact hK _ _ ⟨hC.1.trans (h3.mono hC.1.size), hC.2.on h3⟩ h3 ⟨_, _, rfl, h1, h2⟩
  · intro a' w' hag hC hd K hK
    obtain ⟨a17, b17, e17, h17, k17⟩ := hd.1
    have e17 : a'.tmps.getD 17 undef = .tuple #[a17, b17] := e17
    go_step
    exact hK _ _ hC (Below.refl _ _) ⟨_, _, rfl, h17, k17⟩
  · intro a' w' hag hC hd K hK
    obtain ⟨a10, b10, e10, h10, k10⟩ := hd.1
    have e10 : a'.tmps.getD 10 undef = .tuple #[a10, b10] := e10
    obtain ⟨A, l, c, rfl⟩ := h10.form
    go_step
    exact hK _ _ hC (Below.refl _ _) ⟨_, _, _, rfl, h10⟩
  · intro a' w' hag hC hd K hK
    obtain ⟨a10, b10, e10, h10, k10⟩ := hd.1
    have e10 : a'.tmps.getD 10 undef = .tuple #[a10, b10] := e10
    obtain ⟨A, l, c, rfl⟩ := k10.form
    go_step
    exact hK _ _ hC (Below.refl _ _) ⟨_, _, _, rfl, k10⟩
  · intro a' w' hag hC hd K hK
    obtain ⟨A18, l18, c18, e18, h18⟩ := hd.1
    have e18 : a'.tmps.getD 18 undef = .slice A18 l18 c18 := e18
    go_step
    exact hK _ _ hC ((Below.refl _ _)) ⟨A18, l18, c18, rfl, h18⟩
  · intro u w' hC hall
    obtain ⟨u0, u1, u2, u3, u4, u5, u6, u7, u8, u9, u10, _⟩ := hall
    have u0 : u 0 = .pointer (some ⟨w0.heap.size, 1, none⟩) := u0
    have u1 : u 1 = .string s := u1
    have u3 : u 3 = .pointer (some ⟨w0.heap.size + 1, 1, none⟩) := u3
    have u4 : u 4 = .string t := u4
    obtain ⟨A19, l19, c19, eu9, h19⟩ := u9
    have u9 : u 9 = .slice A19 l19 c19 := eu9
    obtain ⟨A18, l18, c18, eu10, h18⟩ := u10
    have u10 : u 10 = .slice A18 l18 c18 := eu10
    simp only [fillR, List.take_succ_cons, List.take_zero, Act.put, List.setIfInBounds_toArray, List.set_cons_succ, List.set_cons_zero, Nat.zero_add, Nat.reduceAdd, u0, u1, u3, u4, u9, u10]
    clear u0 u1 u3 u4 u9 u10
    have HC := Lib.hid hC
    have HA := Lib.hid h18
    have HR1 := Lib.hid h19
    rw [HR.out, dig_zero] at HR1
    have hl19 : l19 = 0 := HR1.out.len.1
    subst hl19
    have hAl : l18 ≤ 4294967296 := by
      rw [HA.out.len.1]
      exact Nat.le_trans (dig_len_mono _ _ (Nat.div_le_self N M)) (Nat.le_trans KN.out (by decide))
    clear hC h18 h19
    have hc0 := (HC.out.2.get 3 rfl).cell 0 (.bool p) rfl
    have hc1 := (HC.out.2.get 2 rfl).cell 0 (.bool q) rfl
    obtain ⟨x, hx⟩ : ∃ x, x = (!p == q) := ⟨_, rfl⟩
    have HXV : Hid (sg x (N / M) = n / m) := by rw [hx, show (!p == q) = (p != q) by cases p <;> cases q <;> rfl]; exact HV.out
    go_wp2_with fail
    rw [← hx]
    refine (made_any x HA.out hAl).mono ?_
    rintro e w2 ⟨rfl, hb2⟩
    rw [val_dig, HXV.out]
    obtain ⟨a, ha⟩ : ∃ a, a = decide (n / m < 0) := ⟨_, rfl⟩
    obtain ⟨u', hu'⟩ : ∃ u, u = mag (n / m).natAbs := ⟨_, rfl⟩
    have hw : wholeV (n / m) = .agg #[.bool a, .string u'] := by rw [ha, hu']; rfl
    rw [hw]
    have HAA := Lib.hid ha
    have HUU := Lib.hid hu'
    have HF2 := Lib.hid (HC.out.2.on hb2)
    have HB2 := Lib.hid (HC.out.1.trans (hb2.mono HC.out.1.size))
    have HR2 := Lib.hid (HR1.out.below hb2)
    clear hc0 hc1 hw ha hu' hb2 hx
    go_wp2_with fail
    refine (made_any false HR2.out (by decide)).mono ?_
    rintro e w3 ⟨rfl, hb3⟩
    rw [show val [] = 0 from rfl, wholeV_sg0]
    have HF3 := Lib.hid (HF2.out.on hb3)
    have HB3 := Lib.hid (HB2.out.trans (hb3.mono HB2.out.size))
    clear hb3
    have HF4 := Lib.hid ((HF3.out.push w3.heap.size #[.bool a, .string u'] 23 rfl).push (w3.heap.size + 1) #[.bool false, .string ⟨#[]⟩] 23 (by simp))
    have HB4 := Lib.hid (below_alloc_ (below_alloc_ HB3.out (.cells #[.bool a, .string u'] 23)) (.cells #[.bool false, .string ⟨#[]⟩] 23))
    have hp0 := (HF4.out.get 5 rfl).cell 0 (.bool p) rfl
    cases p
    all_goals
      go_wp2
      generalize (w3.alloc (.cells #[.bool a, .string u'] 23)).alloc (.cells #[.bool false, .string ⟨#[]⟩] 23) = w4 at HF4 HB4 hp0 ⊢
      have e0 := (HF4.out.get 1 rfl).cell 0 (.bool a) rfl
      have e1 := (HF4.out.get 1 rfl).cell 1 (.string u') rfl
      have f0 := (HF4.out.get 0 rfl).cell 0 (.bool false) rfl
      have f1 := (HF4.out.get 0 rfl).cell 1 (.string ⟨#[]⟩) rfl
      have g0 := (HF4.out.get 3 rfl).cell 0 (.bool false) rfl
      have g1 := (HF4.out.get 3 rfl).cell 1 (.string ⟨#[]⟩) rfl
      have i0 := (HF4.out.get 2 rfl).cell 0 (.bool false) rfl
      have i1 := (HF4.out.get 2 rfl).cell 1 (.string ⟨#[]⟩) rfl
      have fz1 := (HF4.out.get 3 rfl).frozen
      have fz2 := (HF4.out.get 2 rfl).frozen
      have hlt := HB3.out.size
      have hne1 : w3.heap.size ≠ w0.heap.size + 1 + 1 := by have := (HF3.out.get 0 rfl).lt; omega
      have hne2 : w3.heap.size ≠ w0.heap.size + 1 + 1 + 1 := by have := (HF3.out.get 0 rfl).lt; omega
      have hne3 : ¬ w3.heap.size = w0.heap.size + 1 := by have := (HF3.out.get 0 rfl).lt; omega
      have hne5 : ¬ w3.heap.size + 1 = w0.heap.size + 1 + 1 := by have := (HF3.out.get 0 rfl).lt; omega
      have hne6 : ¬ w3.heap.size + 1 = w0.heap.size + 1 + 1 + 1 := by have := (HF3.out.get 0 rfl).lt; omega
      have hk1 := Lib.hid (((((HF4.out.get 3 rfl).set 0 (.bool a)).set 1 (.string u')).other (b := w0.heap.size + 1 + 1 + 1) (i := 0) (v := .bool false) (by omega)).other (b := w0.heap.size + 1 + 1 + 1) (i := 1) (v := .string ⟨#[]⟩) (by omega))
      have hk2 := Lib.hid (((((HF4.out.get 2 rfl).other (b := w0.heap.size + 1 + 1) (i := 0) (v := .bool a) (by simp)).other (b := w0.heap.size + 1 + 1) (i := 1) (v := .string u') (by simp)).set 0 (.bool false)).set 1 (.string ⟨#[]⟩))
      have hbb := Lib.hid ((((HB4.out.setCell (p := ⟨w0.heap.size + 1 + 1, 0, none⟩) (by simp; omega) (.bool a)).setCell (p := ⟨w0.heap.size + 1 + 1, 1, none⟩) (by simp; omega) (.string u')).setCell (p := ⟨w0.heap.size + 1 + 1 + 1, 0, none⟩) (by simp; omega) (.bool false)).setCell (p := ⟨w0.heap.size + 1 + 1 + 1, 1, none⟩) (by simp; omega) (.string ⟨#[]⟩))
      go_region
      generalize (((w4.setCell ⟨w0.heap.size + 1 + 1, 0, none⟩ (.bool a)).setCell ⟨w0.heap.size + 1 + 1, 1, none⟩ (.string u')).setCell ⟨w0.heap.size + 1 + 1 + 1, 0, none⟩ (.bool false)).setCell ⟨w0.heap.size + 1 + 1 + 1, 1, none⟩ (.string ⟨#[]⟩) = w5 at hk1 hk2 hbb ⊢
      have m0 : w5.drew.cell? ⟨w0.heap.size + 1 + 1, 0, none⟩ = some (.bool a) := BoxAt.cell (w := w5.drew) hk1.out 0 _ rfl
      have m1 : w5.drew.cell? ⟨w0.heap.size + 1 + 1, 1, none⟩ = some (.string u') := BoxAt.cell (w := w5.drew) hk1.out 1 _ rfl
      have m2 : w5.drew.cell? ⟨w0.heap.size + 1 + 1 + 1, 0, none⟩ = some (.bool false) := BoxAt.cell (w := w5.drew) hk2.out 0 _ rfl
      have m3 : w5.drew.cell? ⟨w0.heap.size + 1 + 1 + 1, 1, none⟩ = some (.string ⟨#[]⟩) := BoxAt.cell (w := w5.drew) hk2.out 1 _ rfl
      clear e0 e1 f0 f1 g0 g1 i0 i1 fz1 fz2 hp0
      go_wp2
      exact bodyPost_ret (v := .tuple #[.agg #[.bool a, .string u'], .agg #[.bool false, .string ⟨#[]⟩]]) (by simp [results, Tryz.results87, go_sem, m0, m1, m2, m3]) rfl ⟨_, _, rfl, HAA, HUU, hbb.out.drew⟩
end
section
open Go.RowKit

def R3FitsPost (s t : ByteArray) (w : World) (e : Ending) (w' : World) : Prop := ∃ r, e = .returned (.bool r) ∧ (r = true ↔ s.size ≤ 1024 ∧ t.size ≤ 1024) ∧ Below w.heap.size w w'
set_option maxRecDepth 100000 in
theorem r3fits_any {w : World} (b c : Bool) (s t : ByteArray) :
    Calls Tryz.prog 46 #[.agg #[.bool b, .string s, .bool c, .string t]] w (R3FitsPost s t w) := by
  have HB := Lib.hid (below_new w (.cells #[.bool b, .string s, .bool c, .string t] 25))
  by_cases h1 : s.size ≤ 1024
  · have h1i : (s.size : Int) ≤ 1024 := by omega
    by_cases h2 : t.size ≤ 1024
    · have h2i : (t.size : Int) ≤ 1024 := by omega
      go_enter Tryz.func46, Tryz.ntmps46
      go_wp2
      go_ret
      exact ⟨true, rfl, ⟨fun _ => ⟨h1, h2⟩, fun _ => rfl⟩, HB.out⟩
    · have h2i : (1024 : Int) < (t.size : Int) := by omega
      have h2d : decide ((t.size : Int) ≤ 1024) = false := decide_eq_false (by omega)
      go_enter Tryz.func46, Tryz.ntmps46
      go_wp2
      go_ret
      exact ⟨false, rfl, ⟨fun h => Bool.noConfusion h, fun h => absurd h.2 h2⟩, HB.out⟩
  · have h1i : (1024 : Int) < (s.size : Int) := by omega
    go_enter Tryz.func46, Tryz.ntmps46
    go_wp2
    go_ret
    exact ⟨false, rfl, ⟨fun h => Bool.noConfusion h, fun h => absurd h.1 h1⟩, HB.out⟩
theorem fit_agg {b c : Bool} {s t : ByteArray} {q : Rat} (h : (Value.agg #[.bool b, .string s, .bool c, .string t]) = fracV q) : Fit q ↔ s.size ≤ 1024 ∧ t.size ≤ 1024 := by
  obtain ⟨_, rfl, _, rfl⟩ := agg4 h
  exact Iff.rfl
def R3ToldPost (q : Rat) (w : World) (e : Ending) (w' : World) : Prop := e = .returned (.tuple #[ansV q, .int .i64 (ansK q)]) ∧ Below w.heap.size w w'
set_option maxRecDepth 100000 in
theorem r3told_any {w : World} (b c : Bool) (s t : ByteArray) (q : Rat) (h : (Value.agg #[.bool b, .string s, .bool c, .string t]) = fracV q) :
    Calls Tryz.prog 59 #[.agg #[.bool b, .string s, .bool c, .string t]] w (R3ToldPost q w) := by
  have h1 := below_new w (.cells #[.bool b, .string s, .bool c, .string t] 25)
  have HB := Lib.hid (below_alloc_ h1 (.cells #[.bool false, .string ⟨#[]⟩, .bool false, .string ⟨#[]⟩] 25))
  have HF := Lib.hid (((Frames.nil w).push w.heap.size #[.bool b, .string s, .bool c, .string t] 25 rfl).push (w.heap.size + 1) #[.bool false, .string ⟨#[]⟩, .bool false, .string ⟨#[]⟩] 25 (by simp))
  have HH := Lib.hid h
  clear h1 h
  go_enter Tryz.func59, Tryz.ntmps59
  go_wp2_with fail
  refine (r3fits_any b c s t).mono ?_
  rintro e w1 ⟨r, rfl, hr, hb⟩
  have HB1 := Lib.hid (HB.out.trans (hb.mono HB.out.size))
  have HF1 := Lib.hid (HF.out.on hb)
  have HR := Lib.hid (hr.trans (fit_agg HH.out).symm)
  have HPL := Lib.hid (HF1.out.get 0 rfl)
  clear hr hb
  cases r
  · have HN : Hid (¬ Fit q) := fun h => Bool.noConfusion (HR.out.2 h)
    clear HR
    have hp0 := HPL.out.cell 0 _ rfl
    have hp1 := HPL.out.cell 1 _ rfl
    have hp2 := HPL.out.cell 2 _ rfl
    have hp3 := HPL.out.cell 3 _ rfl
    have hf := HPL.out.frozen
    go_wp2
    have hk := HPL.out.put4 (.bool false) (.string ⟨#[]⟩) (.bool false) (.string ⟨#[]⟩)
    have k0 := hk.cell 0 _ rfl
    have k1 := hk.cell 1 _ rfl
    have k2 := hk.cell 2 _ rfl
    have k3 := hk.cell 3 _ rfl
    exact bodyPost_ret (v := .tuple #[.agg #[.bool false, .string ⟨#[]⟩, .bool false, .string ⟨#[]⟩], .int .i64 4]) (by simp [results, Tryz.results59, go_sem, k0, k1, k2, k3]) rfl ⟨by rw [ansV, ansK, if_neg HN.out, if_neg HN.out]; rfl, below_put4 HB1.out (Nat.le_succ _) _ _ _ _⟩
  · have HN : Hid (Fit q) := by first | exact HR.out.1 rfl | exact HR.out.1 trivial
    have hc0 := (HF1.out.get 1 rfl).cell 0 (.bool b) rfl
    have hc1 := (HF1.out.get 1 rfl).cell 1 (.string s) rfl
    have hc2 := (HF1.out.get 1 rfl).cell 2 (.bool c) rfl
    have hc3 := (HF1.out.get 1 rfl).cell 3 (.string t) rfl
    clear HR
    have hp0 := HPL.out.cell 0 _ rfl
    have hp1 := HPL.out.cell 1 _ rfl
    have hp2 := HPL.out.cell 2 _ rfl
    have hp3 := HPL.out.cell 3 _ rfl
    have hf := HPL.out.frozen
    go_wp2
    have hk := HPL.out.put4 (.bool b) (.string s) (.bool c) (.string t)
    have k0 := hk.cell 0 _ rfl
    have k1 := hk.cell 1 _ rfl
    have k2 := hk.cell 2 _ rfl
    have k3 := hk.cell 3 _ rfl
    exact bodyPost_ret (v := .tuple #[.agg #[.bool b, .string s, .bool c, .string t], .int .i64 0]) (by simp [results, Tryz.results59, go_sem, k0, k1, k2, k3]) rfl ⟨by rw [ansV, ansK, if_pos HN.out, if_pos HN.out, HH.out], below_put4 HB1.out (Nat.le_succ _) _ _ _ _⟩

set_option maxRecDepth 100000 in
theorem told_law {w : World} (b c b2 c2 : Bool) (s t s2 t2 : ByteArray) (q : Rat) (hv : (Value.agg #[.bool b, .string s, .bool c, .string t]) = ansV q) (hq : (Value.agg #[.bool b2, .string s2, .bool c2, .string t2]) = fracV q) :
    Calls Tryz.prog 16 #[.agg #[.bool b, .string s, .bool c, .string t], .int .i64 (ansK q), .agg #[.bool b2, .string s2, .bool c2, .string t2], .bool true] w fun e w' => e = .returned (.bool true) ∧ Below w.heap.size w w' := by
  have h1 := below_new w (.cells #[.bool b, .string s, .bool c, .string t] 25)
  have HB := Lib.hid (below_alloc_ h1 (.cells #[.bool b2, .string s2, .bool c2, .string t2] 25))
  have HF := Lib.hid (((Frames.nil w).push w.heap.size #[.bool b, .string s, .bool c, .string t] 25 rfl).push (w.heap.size + 1) #[.bool b2, .string s2, .bool c2, .string t2] 25 (by simp))
  have HV := Lib.hid hv
  have HQ := Lib.hid hq
  obtain ⟨k, hk⟩ : ∃ k, k = ansK q := ⟨_, rfl⟩
  have HK := Lib.hid hk
  rw [← hk]
  clear h1 hv hq hk
  go_enter Tryz.func16, Tryz.ntmps16
  go_wp2_with fail
  refine (r3told_any b2 c2 s2 t2 q HQ.out).mono ?_
  rintro e w1 ⟨rfl, hb⟩
  rw [← HV.out, ← HK.out]
  have HF1 := Lib.hid ((HF.out.on hb).push w1.heap.size #[.bool b, .string s, .bool c, .string t] 25 rfl)
  have HB1 := Lib.hid (below_alloc_ (HB.out.trans (hb.mono HB.out.size)) (.cells #[.bool b, .string s, .bool c, .string t] 25))
  have hc0 := (HF1.out.get 2 rfl).cell 0 (.bool b) rfl
  have hc1 := (HF1.out.get 2 rfl).cell 1 (.string s) rfl
  have hc2 := (HF1.out.get 2 rfl).cell 2 (.bool c) rfl
  have hc3 := (HF1.out.get 2 rfl).cell 3 (.string t) rfl
  clear hb
  go_wp2
  go_ret
  exact ⟨rfl, HB1.out⟩

theorem divInt_parts (n m : Int) (hm : m ≠ 0) (g : Int) (hg : g = if m < 0 then -((Nat.gcd n.natAbs m.natAbs : Nat) : Int) else ((Nat.gcd n.natAbs m.natAbs : Nat) : Int)) :
    g ≠ 0 ∧ g ∣ n ∧ g ∣ m ∧ (Rat.divInt n m).num = n / g ∧ ((Rat.divInt n m).den : Int) = m / g := by
  have hG : 0 < Nat.gcd n.natAbs m.natAbs := Nat.gcd_pos_of_pos_right _ (by omega)
  obtain ⟨G, hGG⟩ : ∃ G : Nat, G = Nat.gcd n.natAbs m.natAbs := ⟨_, rfl⟩
  rw [← hGG] at hg hG
  have d1 : (G : Int) ∣ n := by rw [hGG]; exact Int.ofNat_dvd_left.2 (Nat.gcd_dvd_left _ _)
  have d2 : (G : Int) ∣ m := by rw [hGG]; exact Int.ofNat_dvd_left.2 (Nat.gcd_dvd_right _ _)
  have e1 : Int.gcd m n = G := by rw [hGG, Int.gcd_comm]; rfl
  have h1 := Rat.num_divInt n m
  have h2 := Rat.den_divInt n m
  rw [e1] at h1 h2
  rw [if_neg hm] at h2
  by_cases h : m < 0
  · rw [if_pos h] at hg
    subst hg
    refine ⟨by omega, Int.neg_dvd.2 d1, Int.neg_dvd.2 d2, ?_, ?_⟩
    · rw [h1, Int.sign_eq_neg_one_of_neg h, Int.ediv_neg, show (-1 : Int) * n = -n by omega, Int.neg_ediv_of_dvd d1]
    · rw [h2, Int.natCast_ediv, Int.ediv_neg, show ((m.natAbs : Nat) : Int) = -m by omega, Int.neg_ediv_of_dvd d2]
  · rw [if_neg h] at hg
    subst hg
    refine ⟨by omega, d1, d2, ?_, ?_⟩
    · rw [h1, Int.sign_eq_one_of_pos (by omega), Int.one_mul]
    · rw [h2, Int.natCast_ediv, show ((m.natAbs : Nat) : Int) = m by omega]
end
section
open Go.RowKit

theorem Frames.set_head {w : World} {g : Nat} {cs : Array Value} {T : TypeId} {l : List (Nat × Array Value × TypeId)} (h : Frames w ((g, cs, T) :: l)) (hl : ∀ x ∈ l, x.1 ≠ g) (a u : Value) :
    Frames ((w.setCell ⟨g, 0, none⟩ a).setCell ⟨g, 1, none⟩ u) ((g, (cs.setIfInBounds 0 a).setIfInBounds 1 u, T) :: l) := by
  intro x hx
  rcases List.mem_cons.1 hx with rfl | hx2
  · exact ((h (g, cs, T) (List.mem_cons_self ..)).set 0 a).set 1 u
  · exact ((h x (List.mem_cons_of_mem _ hx2)).other (hl x hx2)).other (hl x hx2)
set_option maxHeartbeats 6400000 in
set_option maxRecDepth 100000 in
theorem r3of_any {w0 : World} (p q : Bool) (s t : ByteArray) (n m : Int) (hp : p = decide (n < 0)) (hq : q = decide (m < 0)) (hs : s = mag n.natAbs) (ht : t = mag m.natAbs) (h1 : s.size ≤ 100000) (h2 : t.size ≤ 100000) (hm : m ≠ 0) :
    Calls Tryz.prog 61 #[.agg #[.bool p, .string s], .agg #[.bool q, .string t]] w0 fun e w' => e = .returned (fracV (Rat.divInt n m)) ∧ Below w0.heap.size w0 w' := by
  have hf1 := (((Frames.nil w0).push w0.heap.size #[.bool p, .string s] 23 rfl).push (w0.heap.size + 1) #[.bool q, .string t] 23 (by simp)).push (w0.heap.size + 1 + 1) #[.bool false, .string ⟨#[]⟩, .bool false, .string ⟨#[]⟩] 25 (by simp)
  have HB := Lib.hid (below_alloc_ (below_alloc_ (below_new w0 (.cells #[.bool p, .string s] 23)) (.cells #[.bool q, .string t] 23)) (.cells #[.bool false, .string ⟨#[]⟩, .bool false, .string ⟨#[]⟩] 25))
  have HF := Lib.hid hf1
  have HP := Lib.hid hp
  have HQ := Lib.hid hq
  have HS := Lib.hid hs
  have HT := Lib.hid ht
  have H1 := Lib.hid h1
  have H2 := Lib.hid h2
  have HM := Lib.hid hm
  obtain ⟨g, hg⟩ : ∃ g : Int, g = if m < 0 then -((Nat.gcd n.natAbs m.natAbs : Nat) : Int) else ((Nat.gcd n.natAbs m.natAbs : Nat) : Int) := ⟨_, rfl⟩
  have HD := Lib.hid (divInt_parts n m hm g hg)
  have HG := Lib.hid hg
  have hgsz : (mag g.natAbs).size ≤ 100000 := by
    have e : g.natAbs = Nat.gcd n.natAbs m.natAbs := by
      rw [hg]
      split
      · rw [Int.natAbs_neg, Int.natAbs_natCast]
      · rw [Int.natAbs_natCast]
    rw [e]
    exact mag_mono (Nat.gcd_le_right _ (by omega)) (by rw [← ht]; exact h2)
  have HGS := Lib.hid hgsz
  clear hp hq hs ht h1 h2 hm hf1 hg hgsz
  have hc0 := (HF.out.get 2 rfl).cell 0 (.bool p) rfl
  go_enter Tryz.func61, Tryz.ntmps61
  clear hc0
  go_wp2_with fail
  refine (rgcd_any p q s t n.natAbs m.natAbs HS.out HT.out H1.out H2.out).mono ?_
  rintro e w1 ⟨gs, rfl, hgs, hb⟩
  have HGG := Lib.hid hgs
  have HF1 := Lib.hid ((HF.out.on hb).push w1.heap.size #[.bool false, .string gs] 23 rfl)
  have HB1 := Lib.hid (below_alloc_ (HB.out.trans (hb.mono HB.out.size)) (.cells #[.bool false, .string gs] 23))
  have hsz1 : w0.heap.size + 1 + 1 < w1.heap.size := ((HF.out.on hb).get 0 rfl).lt
  have hc2 := (HF1.out.get 2 rfl).cell 0 (.bool q) rfl
  have hc3 := (HF1.out.get 2 rfl).cell 1 (.string t) rfl
  clear hb hgs
  go_wp2_with fail
  refine (rsign_any q t m HQ.out HT.out).mono ?_
  rintro e w2 ⟨rfl, hb⟩
  have HF2 := Lib.hid (HF1.out.on hb)
  have HB2 := Lib.hid (HB1.out.trans (hb.mono HB1.out.size))
  clear hb hc2 hc3
  obtain ⟨sg0, hsg⟩ : ∃ x, x = m.sign := ⟨_, rfl⟩
  rw [← hsg]
  have HSG := Lib.hid hsg
  clear hsg
  have hn1 : ¬ w1.heap.size = w0.heap.size := by omega
  have hn2 : ¬ w1.heap.size = w0.heap.size + 1 := by omega
  have hn3 : ¬ w1.heap.size = w0.heap.size + 1 + 1 := by omega
  have key : ∀ (w3 : World) (ga : Bool) (gu : ByteArray), Hid (ga = decide (g < 0)) → Hid (gu = mag g.natAbs) → Hid (Frames w3 [(w1.heap.size, #[.bool ga, .string gu], 23), (w0.heap.size + 1 + 1, #[.bool false, .string ⟨#[]⟩, .bool false, .string ⟨#[]⟩], 25), (w0.heap.size + 1, #[.bool q, .string t], 23), (w0.heap.size, #[.bool p, .string s], 23)]) → True := fun _ _ _ _ _ _ => trivial
  clear key
  by_cases hneg : sg0 < 0
  · have HMN : Hid (m < 0) := by have := HSG.out; rw [this] at hneg; exact Int.sign_neg_iff.1 hneg
    have hd0 := (HF2.out.get 0 rfl).cell 0 (.bool false) rfl
    have hd1 := (HF2.out.get 0 rfl).cell 1 (.string gs) rfl
    go_wp2_with fail
    refine (rneg_any false gs ((Nat.gcd n.natAbs m.natAbs : Nat) : Int) (by simp) (by rw [Int.natAbs_natCast]; exact HGG.out)).mono ?_
    rintro e w3 ⟨ga, gu, rfl, hga, hgu, hb⟩
    have HGA : Hid (ga = decide (g < 0)) := by rw [Hid, HG.out, if_pos HMN.out]; exact hga.out
    have HGU : Hid (gu = mag g.natAbs) := by rw [Hid, HG.out, if_pos HMN.out]; exact hgu.out
    have hf3 := HF2.out.on hb
    have hx0 := (hf3.get 3 rfl).cell 0 (.bool p) rfl
    have hx1 := (hf3.get 3 rfl).cell 1 (.string s) rfl
    have hx2 := (hf3.get 0 rfl).cell 0 (.bool false) rfl
    have hx3 := (hf3.get 0 rfl).cell 1 (.string gs) rfl
    have hfz := (hf3.get 0 rfl).frozen
    have HF3 : Hid (Frames ((w3.setCell ⟨w1.heap.size, 0, none⟩ (.bool ga)).setCell ⟨w1.heap.size, 1, none⟩ (.string gu)) [(w1.heap.size, #[.bool ga, .string gu], 23), (w0.heap.size + 1 + 1, #[.bool false, .string ⟨#[]⟩, .bool false, .string ⟨#[]⟩], 25), (w0.heap.size + 1, #[.bool q, .string t], 23), (w0.heap.size, #[.bool p, .string s], 23)]) := hf3.set_head (fun x hx => by simp at hx; rcases hx with rfl | rfl | rfl <;> simp <;> omega) (.bool ga) (.string gu)
    have HB3 := Lib.hid (below_put2 (HB2.out.trans (hb.mono HB2.out.size)) (show w0.heap.size ≤ w1.heap.size by omega) (.bool ga) (.string gu))
    clear hb hd0 hd1 hga hgu hf3
    go_wp2_with fail
    generalize (w3.setCell ⟨w1.heap.size, 0, none⟩ (.bool ga)).setCell ⟨w1.heap.size, 1, none⟩ (.string gu) = w4 at HF3 HB3 ⊢
    clear hx0 hx1 hx2 hx3 hfz
    refine (rdivmod_exact p ga s gu n g HP.out HGA.out HS.out HGU.out H1.out (by rw [HGU.out]; exact HGS.out) HD.out.1 HD.out.2.1).mono ?_
    rintro e w5 ⟨a1, u1, rfl, ha1, hu1, hb⟩
    have HF5 := Lib.hid (((HF3.out.on hb).push w5.heap.size #[.bool a1, .string u1] 23 rfl).push (w5.heap.size + 1) #[.bool false, .string ⟨#[]⟩] 23 (by simp))
    have HB5 := Lib.hid (below_alloc_ (below_alloc_ (HB3.out.trans (hb.mono HB3.out.size)) (.cells #[.bool a1, .string u1] 23)) (.cells #[.bool false, .string ⟨#[]⟩] 23))
    have hx0 := (HF5.out.get 4 rfl).cell 0 (.bool q) rfl
    have hx1 := (HF5.out.get 4 rfl).cell 1 (.string t) rfl
    have hx2 := (HF5.out.get 2 rfl).cell 0 (.bool ga) rfl
    have hx3 := (HF5.out.get 2 rfl).cell 1 (.string gu) rfl
    clear hb
    go_wp2_with fail
    refine (rdivmod_exact q ga t gu m g HQ.out HGA.out HT.out HGU.out H2.out (by rw [HGU.out]; exact HGS.out) HD.out.1 HD.out.2.2.1).mono ?_
    rintro e w6 ⟨a2, u2, rfl, ha2, hu2, hb⟩
    have HF6 := Lib.hid (((HF5.out.on hb).push w6.heap.size #[.bool a2, .string u2] 23 rfl).push (w6.heap.size + 1) #[.bool false, .string ⟨#[]⟩] 23 (by simp))
    have HB6 := Lib.hid (below_alloc_ (below_alloc_ (HB5.out.trans (hb.mono HB5.out.size)) (.cells #[.bool a2, .string u2] 23)) (.cells #[.bool false, .string ⟨#[]⟩] 23))
    clear hb hx0 hx1 hx2 hx3
    have ha2f : a2 = false := by
      rw [ha2.out, ← HD.out.2.2.2.2]
      simp
    subst ha2f
    have HVAL : Hid ((Value.agg #[.bool a1, .string u1, .bool false, .string u2]) = fracV (Rat.divInt n m)) := by
      rw [Hid, fracV, HD.out.2.2.2.1, ← ha1.out, ← hu1.out]
      congr 4
      have h := hu2.out
      rw [← HD.out.2.2.2.2, Int.natAbs_natCast] at h
      rw [h]
    have hy0 := (HF6.out.get 3 rfl).cell 0 (.bool a1) rfl
    have hy1 := (HF6.out.get 3 rfl).cell 1 (.string u1) rfl
    have hy2 := (HF6.out.get 1 rfl).cell 0 (.bool false) rfl
    have hy3 := (HF6.out.get 1 rfl).cell 1 (.string u2) rfl
    have hp0 := (HF6.out.get 5 rfl).cell 0 _ rfl
    have hp1 := (HF6.out.get 5 rfl).cell 1 _ rfl
    have hp2 := (HF6.out.get 5 rfl).cell 2 _ rfl
    have hp3 := (HF6.out.get 5 rfl).cell 3 _ rfl
    have hf := (HF6.out.get 5 rfl).frozen
    go_wp2
    have hk := (HF6.out.get 5 rfl).put4 (.bool a1) (.string u1) (.bool false) (.string u2)
    have k0 := hk.cell 0 _ rfl
    have k1 := hk.cell 1 _ rfl
    have k2 := hk.cell 2 _ rfl
    have k3 := hk.cell 3 _ rfl
    exact bodyPost_ret (v := .agg #[.bool a1, .string u1, .bool false, .string u2]) (by simp [results, Tryz.results61, go_sem, k0, k1, k2, k3]) rfl ⟨by rw [HVAL.out], below_put4 HB6.out (by omega) _ _ _ _⟩
  · have hneg2 : ¬ sg0 < 0 := hneg
    have HMN : Hid (¬ m < 0) := fun h => hneg (by rw [HSG.out]; exact Int.sign_neg_iff.2 h)
    obtain ⟨ga, hga⟩ : ∃ ga, ga = false := ⟨_, rfl⟩
    have HGA : Hid (ga = decide (g < 0)) := by rw [Hid, HG.out, if_neg HMN.out, hga]; simp
    have HGU : Hid (gs = mag g.natAbs) := by rw [Hid, HG.out, if_neg HMN.out, Int.natAbs_natCast]; exact HGG.out
    rw [← hga] at HF2
    obtain ⟨gu, hgu⟩ : ∃ gu, gu = gs := ⟨_, rfl⟩
    rw [← hgu] at HF2 HGU
    have hx0 := (HF2.out.get 3 rfl).cell 0 (.bool p) rfl
    have hx1 := (HF2.out.get 3 rfl).cell 1 (.string s) rfl
    have hx2 := (HF2.out.get 0 rfl).cell 0 (.bool ga) rfl
    have hx3 := (HF2.out.get 0 rfl).cell 1 (.string gu) rfl
    have HF3 := HF2
    have HB3 := HB2
    clear hga hgu
    go_wp2_with fail
    obtain ⟨w4, hw4⟩ : ∃ w4, w4 = w2 := ⟨_, rfl⟩
    rw [← hw4] at HF3 HB3 ⊢
    clear hx0 hx1 hx2 hx3 hw4
    refine (rdivmod_exact p ga s gu n g HP.out HGA.out HS.out HGU.out H1.out (by rw [HGU.out]; exact HGS.out) HD.out.1 HD.out.2.1).mono ?_
    rintro e w5 ⟨a1, u1, rfl, ha1, hu1, hb⟩
    have HF5 := Lib.hid (((HF3.out.on hb).push w5.heap.size #[.bool a1, .string u1] 23 rfl).push (w5.heap.size + 1) #[.bool false, .string ⟨#[]⟩] 23 (by simp))
    have HB5 := Lib.hid (below_alloc_ (below_alloc_ (HB3.out.trans (hb.mono HB3.out.size)) (.cells #[.bool a1, .string u1] 23)) (.cells #[.bool false, .string ⟨#[]⟩] 23))
    have hx0 := (HF5.out.get 4 rfl).cell 0 (.bool q) rfl
    have hx1 := (HF5.out.get 4 rfl).cell 1 (.string t) rfl
    have hx2 := (HF5.out.get 2 rfl).cell 0 (.bool ga) rfl
    have hx3 := (HF5.out.get 2 rfl).cell 1 (.string gu) rfl
    clear hb
    go_wp2_with fail
    refine (rdivmod_exact q ga t gu m g HQ.out HGA.out HT.out HGU.out H2.out (by rw [HGU.out]; exact HGS.out) HD.out.1 HD.out.2.2.1).mono ?_
    rintro e w6 ⟨a2, u2, rfl, ha2, hu2, hb⟩
    have HF6 := Lib.hid (((HF5.out.on hb).push w6.heap.size #[.bool a2, .string u2] 23 rfl).push (w6.heap.size + 1) #[.bool false, .string ⟨#[]⟩] 23 (by simp))
    have HB6 := Lib.hid (below_alloc_ (below_alloc_ (HB5.out.trans (hb.mono HB5.out.size)) (.cells #[.bool a2, .string u2] 23)) (.cells #[.bool false, .string ⟨#[]⟩] 23))
    clear hb hx0 hx1 hx2 hx3
    have ha2f : a2 = false := by
      rw [ha2.out, ← HD.out.2.2.2.2]
      simp
    subst ha2f
    have HVAL : Hid ((Value.agg #[.bool a1, .string u1, .bool false, .string u2]) = fracV (Rat.divInt n m)) := by
      rw [Hid, fracV, HD.out.2.2.2.1, ← ha1.out, ← hu1.out]
      congr 4
      have h := hu2.out
      rw [← HD.out.2.2.2.2, Int.natAbs_natCast] at h
      rw [h]
    have hy0 := (HF6.out.get 3 rfl).cell 0 (.bool a1) rfl
    have hy1 := (HF6.out.get 3 rfl).cell 1 (.string u1) rfl
    have hy2 := (HF6.out.get 1 rfl).cell 0 (.bool false) rfl
    have hy3 := (HF6.out.get 1 rfl).cell 1 (.string u2) rfl
    have hp0 := (HF6.out.get 5 rfl).cell 0 _ rfl
    have hp1 := (HF6.out.get 5 rfl).cell 1 _ rfl
    have hp2 := (HF6.out.get 5 rfl).cell 2 _ rfl
    have hp3 := (HF6.out.get 5 rfl).cell 3 _ rfl
    have hf := (HF6.out.get 5 rfl).frozen
    go_wp2
    have hk := (HF6.out.get 5 rfl).put4 (.bool a1) (.string u1) (.bool false) (.string u2)
    have k0 := hk.cell 0 _ rfl
    have k1 := hk.cell 1 _ rfl
    have k2 := hk.cell 2 _ rfl
    have k3 := hk.cell 3 _ rfl
    exact bodyPost_ret (v := .agg #[.bool a1, .string u1, .bool false, .string u2]) (by simp [results, Tryz.results61, go_sem, k0, k1, k2, k3]) rfl ⟨by rw [HVAL.out], below_put4 HB6.out (by omega) _ _ _ _⟩
end
end Go.Proofs.YtaenedjanckaiaaGreat
