/- The reference of layer 2: Sign, Formed, Fits, May, Neg, Gcd. -/
import Derived.Test.YtaenedjanckaiaaGreatRefG
import Derived.Test.YtaenedjanckaiaaGreatLawA
namespace Go.Proofs.YtaenedjanckaiaaGreat
set_option linter.unnecessarySimpa false
set_option linter.unusedVariables false
set_option linter.unusedSimpArgs false
open Go.RowKit

theorem str_empty {s : ByteArray} {n : Nat} (h : s = mag n) : s.size = 0 ↔ n = 0 := by
  rw [h, mag_size]
  exact List.length_eq_zero_iff.trans (led_nil_iff n)
theorem rsign_any {w : World} (p : Bool) (s : ByteArray) (n : Int) (hp : p = decide (n < 0)) (hs : s = mag n.natAbs) :
    Calls Tryz.prog 64 #[.agg #[.bool p, .string s]] w fun e w' => e = .returned (.int .i64 n.sign) ∧ Below w.heap.size w w' := by
  have HB := Lib.hid (below_new w (.cells #[.bool p, .string s] 23))
  have HP := Lib.hid hp
  have HE := Lib.hid (str_empty hs)
  clear hp hs
  by_cases h0 : s.size = 0
  · obtain rfl := empty_data h0
    have HN : Hid (n = 0) := by have := HE.out.1 h0; unfold Hid; omega
    clear h0
    go_enter Tryz.func64, Tryz.ntmps64
    go_wp2
    go_ret
    exact ⟨by rw [HN.out]; rfl, HB.out⟩
  · obtain ⟨hE, hE2⟩ := toList_some h0
    have HN : Hid (n ≠ 0) := fun e => h0 (HE.out.2 (by rw [e]; rfl))
    clear h0
    cases p
    · go_enter Tryz.func64, Tryz.ntmps64
      go_wp2
      go_ret
      refine ⟨?_, HB.out⟩
      have h1 : ¬ n < 0 := of_decide_eq_false HP.out.symm
      have h2 := HN.out
      rw [Int.sign_eq_one_of_pos (by omega)]
      rfl
    · go_enter Tryz.func64, Tryz.ntmps64
      go_wp2
      go_ret
      refine ⟨?_, HB.out⟩
      have h1 : n < 0 := of_decide_eq_true HP.out.symm
      rw [Int.sign_eq_neg_one_of_neg h1]
      rfl

/-- In its one form, however long. -/
def FormedB (p : Bool) (s : ByteArray) : Prop := s.size = 0 ∧ p = false ∨ s.size ≠ 0 ∧ head s ≠ 0
set_option maxRecDepth 100000 in
theorem rformed_any {w : World} (p : Bool) (s : ByteArray) (r : Bool) (hr : r = true ↔ FormedB p s) :
    Calls Tryz.prog 90 #[.agg #[.bool p, .string s]] w fun e w' => e = .returned (.bool r) ∧ Below w.heap.size w w' := by
  have HB := Lib.hid (below_new w (.cells #[.bool p, .string s] 23))
  have HR := Lib.hid hr
  clear hr
  by_cases h0 : s.size = 0
  · obtain rfl := empty_data h0
    have HQ : Hid (r = !p) := by
      have h1 := HR.out
      unfold FormedB at h1
      cases p <;> cases r <;> simp_all [Hid]
    clear h0
    go_enter Tryz.func90, Tryz.ntmps90
    go_wp2
    go_ret
    exact ⟨by rw [HQ.out]; rfl, HB.out⟩
  · obtain ⟨hE, hE2⟩ := toList_some h0
    have hp : 0 < s.size := by omega
    obtain ⟨t, ht⟩ : ∃ t, t = head s := ⟨_, rfl⟩
    have ht2 : s[0].toNat = t := by rw [ht]; exact head_eq hp
    have HQ : Hid (r = true ↔ t ≠ 0) := by
      have h1 := HR.out
      unfold FormedB at h1
      rw [← ht] at h1
      exact ⟨fun h => (h1.1 h).elim (fun k => absurd k.1 h0) (fun k => k.2), fun h => h1.2 (.inr ⟨h0, h⟩)⟩
    clear ht
    by_cases hz : t = 0
    · subst hz
      go_enter Tryz.func90, Tryz.ntmps90
      go_wp2
      go_ret
      refine ⟨?_, HB.out⟩
      cases r
      · rfl
      · exact absurd rfl (HQ.out.1 rfl)
    · have hz1 : ((t : Int) == 0) = false := by rw [beq_eq_false_iff_ne]; omega
      have hz2 : ((t : Int) != 0) = true := by rw [bne_iff_ne]; omega
      go_enter Tryz.func90, Tryz.ntmps90
      go_wp2
      go_ret
      refine ⟨?_, HB.out⟩
      rw [HQ.out.2 hz]
      rfl
theorem rfits_any {w : World} (p : Bool) (s : ByteArray) (r : Bool) (hr : decide (s.size ≤ 16384) = r) :
    Calls Tryz.prog 110 #[.agg #[.bool p, .string s]] w fun e w' => e = .returned (.bool r) ∧ Below w.heap.size w w' := by
  have HB := Lib.hid (below_new w (.cells #[.bool p, .string s] 23))
  have hq : decide ((s.size : Int) ≤ 16384) = r := by
    rw [← hr]
    exact decide_eq_decide.2 (by omega)
  have HQ := Lib.hid hq
  clear hr
  go_enter Tryz.func110, Tryz.ntmps110
  go_wp2
  go_ret
  refine ⟨?_, HB.out⟩
  rw [← HQ.out]
  rfl
def RMayPost (p : Bool) (s : ByteArray) (w : World) (e : Ending) (w' : World) : Prop := ∃ r, e = .returned (.bool r) ∧ (r = true ↔ WholeOk p s) ∧ Below w.heap.size w w'
set_option maxRecDepth 100000 in
theorem rmay_any {w : World} (p : Bool) (s : ByteArray) :
    Calls Tryz.prog 75 #[.agg #[.bool p, .string s]] w (RMayPost p s w) := by
  have HB := Lib.hid (below_new w (.cells #[.bool p, .string s] 23))
  have HX := Lib.hid (BoxAt.new w #[.bool p, .string s] 23)
  obtain ⟨r, hr⟩ : ∃ r : Bool, r = true ↔ FormedB p s := by
    by_cases h : FormedB p s
    · exact ⟨true, ⟨fun _ => h, fun _ => rfl⟩⟩
    · exact ⟨false, ⟨fun k => Bool.noConfusion k, fun k => absurd k h⟩⟩
  have HR := Lib.hid hr
  clear hr
  go_enter Tryz.func75, Tryz.ntmps75
  go_wp2_with fail
  refine (rformed_any p s r HR.out).mono ?_
  rintro e w1 ⟨rfl, hb⟩
  have HX1 := Lib.hid (HX.out.on hb)
  have HB1 := Lib.hid (HB.out.trans (hb.mono HB.out.size))
  clear hb
  cases r
  · go_wp2
    go_ret
    exact ⟨false, rfl, ⟨fun h => Bool.noConfusion h, fun h => Bool.noConfusion (HR.out.2 h.1)⟩, HB1.out⟩
  · have HF : Hid (FormedB p s) := by first | exact HR.out.1 rfl | exact HR.out.1 trivial
    obtain ⟨q, hq⟩ : ∃ q, q = decide (s.size ≤ 16384) := ⟨_, rfl⟩
    have HQ := Lib.hid hq
    have hc0 := HX1.out.cell 0 (.bool p) rfl
    have hc1 := HX1.out.cell 1 (.string s) rfl
    clear HR hq
    go_wp2_with fail
    refine (rfits_any p s q HQ.out.symm).mono ?_
    rintro e w2 ⟨rfl, hb⟩
    have HB2 := Lib.hid (HB1.out.trans (hb.mono HB1.out.size))
    clear hb hc0 hc1
    go_wp2
    go_ret
    refine ⟨q, rfl, ?_, HB2.out⟩
    rw [HQ.out, decide_eq_true_eq]
    exact ⟨fun h => ⟨HF.out, h⟩, fun h => h.2⟩
theorem rneg_any {w : World} (p : Bool) (s : ByteArray) (n : Int) (hp : p = decide (n < 0)) (hs : s = mag n.natAbs) :
    Calls Tryz.prog 85 #[.agg #[.bool p, .string s]] w fun e w' => ∃ q t, e = .returned (.agg #[.bool q, .string t]) ∧ Hid (q = decide (-n < 0)) ∧ Hid (t = mag (-n).natAbs) ∧ Below w.heap.size w w' := by
  have h1 := below_new w (.cells #[.bool p, .string s] 23)
  have h2 := below_new (w.alloc (.cells #[.bool p, .string s] 23)) (.cells #[.bool false, .string ⟨#[]⟩] 23)
  have HB := Lib.hid (h1.trans (h2.mono h1.size))
  have HC := Lib.hid (BoxAt.new_at (w := w.alloc (.cells #[.bool p, .string s] 23)) (n := w.heap.size + 1) #[.bool false, .string ⟨#[]⟩] 23 (size_alloc w _).symm)
  obtain ⟨q, hq⟩ : ∃ q, q = decide (-n < 0) := ⟨_, rfl⟩
  have HQ := Lib.hid hq
  have HT : Hid (s = mag (-n).natAbs) := by rw [Hid, Int.natAbs_neg]; exact hs
  have HE := Lib.hid (str_empty hs)
  have hp0 := HC.out.cell 0 _ rfl
  have hp1 := HC.out.cell 1 _ rfl
  have hf := HC.out.frozen
  have HP := Lib.hid hp
  clear hp hs h1 h2 hq
  by_cases h0 : s.size = 0
  · obtain rfl := empty_data h0
    have hn : n = 0 := by have := HE.out.1 h0; omega
    have hpf : p = false := by rw [HP.out, hn]; rfl
    have hqf : q = false := by rw [HQ.out, hn]; rfl
    subst hpf
    subst hqf
    clear h0 hn
    go_enter Tryz.func85, Tryz.ntmps85
    go_wp2
    have hk := (HC.out.set 0 (.bool false)).set 1 (.string ⟨#[]⟩)
    have k0 := hk.cell 0 _ rfl
    have k1 := hk.cell 1 _ rfl
    exact bodyPost_ret (v := .agg #[.bool false, .string ⟨#[]⟩]) (by simp [results, Tryz.results85, go_sem, k0, k1]) rfl ⟨_, _, rfl, HQ, HT, by first | exact HB.out | exact below_alloc_ (below_new w _) _⟩
  · obtain ⟨hE, hE2⟩ := toList_some h0
    have hn : n ≠ 0 := fun e => h0 (HE.out.2 (by rw [e]; rfl))
    have hpq : p = !q := by
      rw [HP.out, HQ.out]
      by_cases h1 : n < 0
      · rw [decide_eq_true h1, decide_eq_false (by omega)]; rfl
      · rw [decide_eq_false h1, decide_eq_true (by omega)]; rfl
    subst hpq
    clear h0 hn
    cases q
    all_goals
      go_enter Tryz.func85, Tryz.ntmps85
      go_wp2
    · have hk := (HC.out.set 0 (.bool false)).set 1 (.string s)
      have k0 := hk.cell 0 _ rfl
      have k1 := hk.cell 1 _ rfl
      exact bodyPost_ret (v := .agg #[.bool false, .string s]) (by simp [results, Tryz.results85, go_sem, k0, k1]) rfl ⟨_, _, rfl, HQ, HT, by first | exact HB.out | exact below_alloc_ (below_new w _) _⟩
    · have hk := (HC.out.set 0 (.bool true)).set 1 (.string s)
      have k0 := hk.cell 0 _ rfl
      have k1 := hk.cell 1 _ rfl
      exact bodyPost_ret (v := .agg #[.bool true, .string s]) (by simp [results, Tryz.results85, go_sem, k0, k1]) rfl ⟨_, _, rfl, HQ, HT, by first | exact HB.out | exact below_alloc_ (below_new w _) _⟩
end Go.Proofs.YtaenedjanckaiaaGreat
