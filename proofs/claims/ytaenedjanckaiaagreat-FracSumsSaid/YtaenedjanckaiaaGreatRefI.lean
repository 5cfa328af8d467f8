/- The reference of layer 2: Gcd; DivMod where nothing is left. -/
import Derived.Test.YtaenedjanckaiaaGreatRefH
namespace Go.Proofs.YtaenedjanckaiaaGreat
set_option linter.unnecessarySimpa false
set_option linter.unusedVariables false
set_option linter.unusedSimpArgs false
open Go.RowKit

theorem len_mag {s : ByteArray} {N : Nat} (hs : s = mag N) (h : s.size ≤ 100000) : (dig N).length ≤ 25001 := by
  have := wl_size (n := N) (k := 100000) (by rw [← hs]; exact h)
  omega
set_option maxHeartbeats 3200000 in
set_option maxRecDepth 100000 in
theorem rgcd_any {w0 : World} (p q : Bool) (s t : ByteArray) (N M : Nat) (hs : s = mag N) (ht : t = mag M) (h1 : s.size ≤ 100000) (h2 : t.size ≤ 100000) :
    Calls Tryz.prog 91 #[.agg #[.bool p, .string s], .agg #[.bool q, .string t]] w0 fun e w' => ∃ g, e = .returned (.agg #[.bool false, .string g]) ∧ Hid (g = mag (Nat.gcd N M)) ∧ Below w0.heap.size w0 w' := by
  have hf0 := ((Frames.nil w0).push w0.heap.size #[.bool p, .string s] 23 rfl).push (w0.heap.size + 1) #[.bool q, .string t] 23 (by simp)
  have hf1 := hf0.push (w0.heap.size + 1 + 1) #[.bool false, .string ⟨#[]⟩] 23 (by simp)
  have HB := Lib.hid (below_alloc_ (below_alloc_ (below_new w0 (.cells #[.bool p, .string s] 23)) (.cells #[.bool q, .string t] 23)) (.cells #[.bool false, .string ⟨#[]⟩] 23))
  have HF := Lib.hid hf1
  have HS := Lib.hid hs
  have HT := Lib.hid ht
  have KN : Hid ((dig N).length ≤ 25001) := len_mag hs h1
  have KM : Hid ((dig M).length ≤ 25001) := len_mag ht h2
  have H1 : Hid (s.size ≤ 4294967296) := Nat.le_trans h1 (by decide)
  have H2 : Hid (t.size ≤ 4294967296) := Nat.le_trans h2 (by decide)
  clear hs ht h1 h2 hf0 hf1
  go_enter Tryz.func91, Tryz.ntmps91
  go_wp2
  generalize ((w0.alloc (.cells #[.bool p, .string s] 23)).alloc (.cells #[.bool q, .string t] 23)).alloc (.cells #[.bool false, .string ⟨#[]⟩] 23) = w1 at HB HF ⊢
  refine wp_region_acts 6 (fun w' => Below w0.heap.size w0 w' ∧ Frames w' [(w0.heap.size + 1 + 1, #[.bool false, .string ⟨#[]⟩], 23), (w0.heap.size + 1, #[.bool q, .string t], 23), (w0.heap.size, #[.bool p, .string s], 23)]) (fun w w' => Below w.heap.size w w') (fun i w v => match i with
      | 0 => v = .pointer (some ⟨w0.heap.size, 1, none⟩)
      | 1 => v = .string s
      | 2 => ∃ A c, v = .slice A (dig N).length c ∧ Words w (.slice A (dig N).length c) (dig N)
      | 3 => v = .pointer (some ⟨w0.heap.size + 1, 1, none⟩)
      | 4 => v = .string t
      | _ => ∃ A c, v = .slice A (dig M).length c ∧ Words w (.slice A (dig M).length c) (dig M)) (by kernel_rfl) (by kernel_rfl) (by kernel_rfl) ⟨HB.out.drew, HF.out.on (Below.drew (Below.refl _ _))⟩ (fun _ _ => (Below.refl _ _)) ?_ ⟨?_, ?_, ?_, ?_, ?_, ?_, trivial⟩ ?_
  · intro i w1 w2 v hC hC2 hE hV
    match i with
    | 0 => exact hV
    | 1 => exact hV
    | 2 => obtain ⟨A, c, e, h⟩ := hV; exact ⟨A, c, e, h.below hE⟩
    | 3 => exact hV
    | 4 => exact hV
    | _ + 5 => obtain ⟨A, c, e, h⟩ := hV; exact ⟨A, c, e, h.below hE⟩
  · intro a' w' hag hC hd K hK
    have e2 : a'.tmps.getD 2 undef = .pointer (some ⟨w0.heap.size, 0, none⟩) := hag 2 rfl
    go_step
    exact hK _ _ hC ((Below.refl _ _)) rfl
  · intro a' w' hag hC hd K hK
    have e9 : a'.tmps.getD 9 undef = .pointer (some ⟨w0.heap.size, 1, none⟩) := hd.1
    have hc0 := (hC.2.get 2 rfl).cell 1 (.string s) rfl
    have HK := Lib.hid (hK (.string s) _ hC (Below.refl _ _) rfl)
    clear hK hC
    go_step
    exact HK.out
  · intro a' w' hag hC hd K hK
    have e10 : a'.tmps.getD 10 undef = .string s := hd.1
    go_step
    refine (words_any s N HS.out H1.out).mono ?_
    rintro e w2 ⟨A, c, rfl, h1, h2⟩
    exact hK _ _ ⟨hC.1.trans (h2.mono hC.1.size), hC.2.on h2⟩ h2 ⟨_, _, rfl, h1⟩
  · intro a' w' hag hC hd K hK
    have e3 : a'.tmps.getD 3 undef = .pointer (some ⟨w0.heap.size + 1, 0, none⟩) := hag 3 rfl
    go_step
    exact hK _ _ hC ((Below.refl _ _)) rfl
  · intro a' w' hag hC hd K hK
    have e12 : a'.tmps.getD 12 undef = .pointer (some ⟨w0.heap.size + 1, 1, none⟩) := hd.1
    have hc0 := (hC.2.get 1 rfl).cell 1 (.string t) rfl
    have HK := Lib.hid (hK (.string t) _ hC (Below.refl _ _) rfl)
    clear hK hC
    go_step
    exact HK.out
  · intro a' w' hag hC hd K hK
    have e13 : a'.tmps.getD 13 undef = .string t := hd.1
    go_step
    refine (words_any t M HT.out H2.out).mono ?_
    rintro e w2 ⟨A, c, rfl, h1, h2⟩
    exact hK _ _ ⟨hC.1.trans (h2.mono hC.1.size), hC.2.on h2⟩ h2 ⟨_, _, rfl, h1⟩
  · intro u w' hC hall
    obtain ⟨u0, u1, u2, u3, u4, u5, _⟩ := hall
    have u0 : u 0 = .pointer (some ⟨w0.heap.size, 1, none⟩) := u0
    have u1 : u 1 = .string s := u1
    obtain ⟨A11, c11, eu2, h11⟩ := u2
    have u2 : u 2 = .slice A11 (dig N).length c11 := eu2
    have u3 : u 3 = .pointer (some ⟨w0.heap.size + 1, 1, none⟩) := u3
    have u4 : u 4 = .string t := u4
    obtain ⟨A14, c14, eu5, h14⟩ := u5
    have u5 : u 5 = .slice A14 (dig M).length c14 := eu5
    simp only [fillR, List.take_succ_cons, List.take_zero, Act.put, List.setIfInBounds_toArray, List.set_cons_succ, List.set_cons_zero, Nat.zero_add, Nat.reduceAdd, u0, u1, u2, u3, u4, u5]
    clear u0 u1 u2 u3 u4 u5
    have HC := Lib.hid hC
    have H11 := Lib.hid h11
    have H14 := Lib.hid h14
    obtain ⟨lN, hlN⟩ : ∃ l, l = (dig N).length := ⟨_, rfl⟩
    obtain ⟨lM, hlM⟩ : ∃ l, l = (dig M).length := ⟨_, rfl⟩
    rw [← hlN] at H11
    rw [← hlM] at H14
    rw [← hlN, ← hlM]
    clear hC h11 h14 hlN hlM
    go_wp2
    go_loopg [5, 6] M (fun k x y wr => ∃ (A B : Option Addr) (la ca lb cb : Nat) (u v : Nat), x = .slice A la ca ∧ y = .slice B lb cb ∧ Hid (Words wr (.slice A la ca) (dig u)) ∧ Hid (Words wr (.slice B lb cb) (dig v)) ∧ Hid (Nat.gcd u v = Nat.gcd N M) ∧ Hid (v ≤ k) ∧ Hid ((dig u).length ≤ 25001) ∧ Hid ((dig v).length ≤ 25001) ∧ Hid (Below w0.heap.size w0 wr) ∧ Hid (BoxAt wr (w0.heap.size + 1 + 1) #[.bool false, .string ⟨#[]⟩] 23))
    case atStart => exact ⟨_, _, _, _, _, _, N, M, rfl, rfl, H11, H14, rfl, Nat.le_refl _, KN, KM, HC.out.1, HC.out.2.get 0 rfl⟩
    case round =>
      obtain ⟨A, B, la, ca, lb, cb, u, v, rfl, rfl, hu, hv, hg, hk, hul, hvl, hb, hbox⟩ := hrel
      have hl := hv.out.len.1
      have hlb := hv.out.2.1
      by_cases h0 : 0 < lb
      · have hv0 : 0 < v := by
          rcases Nat.eq_zero_or_pos v with h | h
          · rw [h, dig_zero] at hl; simp at hl; omega
          · exact h
        have HV0 := Lib.hid hv0
        have hlb2 : lb ≤ 17179869184 := by omega
        clear hl hlb hv0
        go_wp2_with fail
        refine (divided_any hu.out hv.out HV0.out (by rw [hu.out.len.1]; exact Nat.le_trans hul.out (by decide))).mono ?_
        rintro e w3 ⟨v1, v2, rfl, h1, h2, h3⟩
        obtain ⟨A2, m2, c2, rfl⟩ := h2.form
        have H2 := Lib.hid h2
        have H3 := Lib.hid h3
        clear h1 h2 h3
        go_wp2
        go_roundg (u % v)
        case measure => exact Nat.lt_of_lt_of_le (Nat.mod_lt _ HV0.out) hk.out
        case rel =>
          refine ⟨B, A2, lb, cb, m2, c2, v, u % v, rfl, rfl, hv.out.below H3.out, H2.out, ?_, Nat.le_refl _, hvl.out, ?_, hb.out.trans (H3.out.mono hb.out.size), hbox.out.on H3.out⟩
          · rw [Hid, ← hg.out, Nat.gcd_comm v, ← Nat.gcd_rec, Nat.gcd_comm]
          · exact Nat.le_trans (dig_len_mono _ _ (Nat.le_of_lt (Nat.mod_lt _ HV0.out))) hvl.out
      · obtain rfl : lb = 0 := by omega
        have hv0 := (dig_nil_iff v).1 (List.eq_nil_of_length_eq_zero hl.symm)
        subst hv0
        have hgu := hg.out
        rw [Nat.gcd_zero_right] at hgu
        have HG := Lib.hid hgu
        clear hl hlb hgu
        go_wp2_with fail
        refine (made_any false hu.out (by rw [hu.out.len.1]; exact Nat.le_trans hul.out (by decide))).mono ?_
        rintro e w3 ⟨rfl, hb3⟩
        have hval : wholeV (sg false (val (dig u))) = .agg #[.bool false, .string (mag u)] := by rw [val_dig]; exact wholeV_nat u
        rw [hval]
        obtain ⟨g, hg2⟩ : ∃ g, g = mag u := ⟨_, rfl⟩
        rw [← hg2]
        have HGG : Hid (g = mag (Nat.gcd N M)) := by rw [hg2, HG.out]; rfl
        have HX := Lib.hid (hbox.out.on hb3)
        have HB3 := Lib.hid (hb.out.trans (hb3.mono hb.out.size))
        have hp0 := HX.out.cell 0 _ rfl
        have hp1 := HX.out.cell 1 _ rfl
        have hf := HX.out.frozen
        clear hval hg2 hb3
        go_wp2
        have hk := (HX.out.set 0 (.bool false)).set 1 (.string g)
        have k0 := hk.cell 0 _ rfl
        have k1 := hk.cell 1 _ rfl
        exact bodyPost_ret (v := .agg #[.bool false, .string g]) (by simp [results, Tryz.results91, go_sem, k0, k1]) rfl ⟨_, rfl, HGG, below_put2 HB3.out (by omega) _ _⟩

theorem sg_exact {n m : Int} (h : m ∣ n) : sg (decide (n < 0) != decide (m < 0)) (n.natAbs / m.natAbs) = n / m := by
  obtain ⟨k, rfl⟩ := h
  by_cases hm : m = 0
  · subst hm; simp [sg]
  have h1 : m * k / m = k := Int.mul_ediv_cancel_left k hm
  have h2 : (m * k).natAbs / m.natAbs = k.natAbs := by
    rw [Int.natAbs_mul]
    exact Nat.mul_div_cancel_left _ (by omega)
  rw [h1, h2]
  by_cases hk : k = 0
  · subst hk; simp [sg]
  rcases Int.lt_or_gt_of_ne hm with h3 | h3 <;> rcases Int.lt_or_gt_of_ne hk with h4 | h4
  · have : ¬ m * k < 0 := by have := Int.mul_pos_of_neg_of_neg h3 h4; omega
    simp [sg, this, h3]; omega
  · have := Int.mul_neg_of_neg_of_pos h3 h4
    simp [sg, this, h3]; omega
  · have := Int.mul_neg_of_pos_of_neg h3 h4
    simp [sg, this, show ¬ m < 0 by omega]; omega
  · have : ¬ m * k < 0 := by have := Int.mul_pos h3 h4; omega
    simp [sg, this, show ¬ m < 0 by omega]; omega
end Go.Proofs.YtaenedjanckaiaaGreat
