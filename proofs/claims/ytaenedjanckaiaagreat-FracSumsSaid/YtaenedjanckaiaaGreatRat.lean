/- Package big: fractions: what lies in memory; den, SetFrac. -/
import Derived.Test.YtaenedjanckaiaaGreatIntC
namespace Go.Proofs.YtaenedjanckaiaaGreat
set_option linter.unnecessarySimpa false
set_option linter.unusedVariables false
set_option linter.unusedSimpArgs false
open Go.RowKit

/-- A fraction that lies at a place: two numbers; a second one that is 0 stands for 1. -/
def RatAt (w : World) (b o : Nat) (q : Rat) : Prop :=
  Slot w b o 4 ∧ IntAt w b o q.num ∧ ∃ d : Int, IntAt w b (o + 2) d ∧ (d = q.den ∨ d = 0 ∧ q.den = 1)

theorem RatAt.slot {w : World} {b o : Nat} {q : Rat} (h : RatAt w b o q) : Slot w b o 4 := h.1
theorem RatAt.lt {w : World} {b o : Nat} {q : Rat} (h : RatAt w b o q) : b < w.heap.size := h.1.lt
theorem RatAt.on {w w' : World} {b o : Nat} {q : Rat} (h : RatAt w b o q) (k : Below w.heap.size w w') : RatAt w' b o q := by
  obtain ⟨h1, h2, d, h3, h4⟩ := h
  exact ⟨h1.on k, h2.on k, d, h3.on k, h4⟩
theorem RatAt.touch {w w' : World} {b o n g i m : Nat} {q : Rat} (h : RatAt w g i q) (hs : Slot w b o m) (k : Touch w w' b o n) (hd : g ≠ b) : RatAt w' g i q := by
  obtain ⟨h1, h2, d, h3, h4⟩ := h
  exact ⟨h1.touch k, h2.touch hs k (.inl hd), d, h3.touch hs k (.inl hd), h4⟩
theorem RatAt.new (w : World) : RatAt (w.alloc (.cells #[.bool false, .slice none 0 0, .bool false, .slice none 0 0] 85)) w.heap.size 0 0 := by
  have hb := heap_alloc_new w (.cells #[.bool false, .slice none 0 0, .bool false, .slice none 0 0] 85)
  refine ⟨⟨_, _, hb, by decide, by simp⟩, ⟨⟨_, _, hb, by decide, by simp⟩, ?_, .slice none 0 0, ?_, ?_⟩, 0, ⟨⟨_, _, hb, by decide, by simp⟩, ?_, .slice none 0 0, ?_, ?_⟩, .inr ⟨rfl, rfl⟩⟩
  · rw [cell_of_row _ _ _ _ _ _ hb]; rfl
  · rw [cell_of_row _ _ _ _ _ _ hb]; rfl
  · rw [show (0 : Rat).num = 0 from rfl, Int.natAbs_zero, dig_zero]; exact Words.nil _
  · rw [cell_of_row _ _ _ _ _ _ hb]; rfl
  · rw [cell_of_row _ _ _ _ _ _ hb]; rfl
  · rw [Int.natAbs_zero, dig_zero]; exact Words.nil _

/-- What SetFrac makes of two numbers. -/
theorem setFrac_of (n m : Int) (h0 : m ≠ 0) (g : Int) (hg : g = if m < 0 then -(Int.gcd n m : Int) else (Int.gcd n m : Int)) : g ≠ 0 ∧ n.tdiv g = (Rat.divInt n m).num ∧ m.tdiv g = (Rat.divInt n m).den := by
  have hgp : 0 < Int.gcd n m := Int.gcd_pos_of_ne_zero_right _ h0
  obtain ⟨k, hk⟩ := Int.gcd_dvd_left n m
  obtain ⟨l, hl⟩ := Int.gcd_dvd_right n m
  rw [Rat.num_divInt, Rat.den_divInt, if_neg h0, Int.gcd_comm m n]
  generalize Int.gcd n m = c at *
  have hc : (c : Int) ≠ 0 := by omega
  by_cases h : m < 0
  · rw [if_pos h] at hg
    subst hg
    refine ⟨by omega, ?_, ?_⟩
    · rw [Int.sign_eq_neg_one_of_neg h, hk, Int.tdiv_neg, Int.mul_tdiv_cancel_left _ hc, Int.neg_mul, Int.one_mul, ← Int.mul_neg, Int.mul_ediv_cancel_left _ hc]
    · rw [hl, Int.tdiv_neg, Int.mul_tdiv_cancel_left _ hc, Int.natAbs_mul, Int.natAbs_natCast, Nat.mul_div_cancel_left _ hgp]
      have : l < 0 := by
        rcases Int.lt_or_le l 0 with h1 | h1
        · exact h1
        · have := Int.mul_nonneg (Int.natCast_nonneg c) h1; omega
      omega
  · rw [if_neg h] at hg
    subst hg
    refine ⟨hc, ?_, ?_⟩
    · rw [Int.sign_eq_one_of_pos (by omega), hk, Int.mul_tdiv_cancel_left _ hc, Int.one_mul, Int.mul_ediv_cancel_left _ hc]
    · rw [hl, Int.mul_tdiv_cancel_left _ hc, Int.natAbs_mul, Int.natAbs_natCast, Nat.mul_div_cancel_left _ hgp]
      have : 0 ≤ l := by
        rcases Int.lt_or_le l 0 with h1 | h1
        · have := Int.mul_neg_of_pos_of_neg (show 0 < (c : Int) by omega) h1; omega
        · exact h1
      omega

theorem den_any {w : World} {b o : Nat} {q : Rat} (hx : RatAt w b o q) :
    Calls Tryz.prog 93 #[.pointer (some ⟨b, o, none⟩)] w fun e w' => ∃ g i, e = .returned (.pointer (some ⟨g, i, none⟩)) ∧ IntAt w' g i q.den ∧ Below w.heap.size w w' ∧ (g = b ∨ w.heap.size ≤ g) := by
  obtain ⟨hs, hn, d, hd, hq⟩ := hx
  obtain ⟨A, la, ca, hd0, hd1, hdv, hlt⟩ := hd.open_
  have hl := hdv.len.1
  have hb := hdv.2.1
  have HD := Lib.hid hd
  have HQ := Lib.hid hq
  clear hs hn hdv hd0 hd
  by_cases h0 : d = 0
  · subst h0
    rw [Int.natAbs_zero, dig_zero] at hl
    obtain rfl : la = 0 := hl
    have hq1 : ((q.den : Nat) : Int) = 1 := by have := q.den_pos; omega
    rw [hq1]
    clear hb hq hq1
    go_enter Tryz.func93, Tryz.ntmps93
    go_wp2_with fail
    refine (NewInt_any (by omega)).mono ?_
    rintro e w1 ⟨b1, rfl, h0, h1, h2⟩
    have H0 := Lib.hid h0
    have H1 := Lib.hid h1
    have H2 := Lib.hid h2
    clear h1 h2 h0
    go_wp2
    go_ret
    exact ⟨_, _, rfl, H1.out, H2.out, .inr H0.out⟩
  · have hl0 : 0 < la := by
      rcases Nat.eq_zero_or_pos la with h | h
      · rw [h] at hl
        have := (dig_nil_iff d.natAbs).1 (List.eq_nil_of_length_eq_zero hl.symm)
        omega
      · exact h
    have hlb : la ≤ 17179869184 := by omega
    have hq1 : d = q.den := by omega
    have H1 : Hid (IntAt w b (o + 2) q.den) := by rw [← hq1]; exact HD.out
    have hne : ((la : Int) == 0) = false := by rw [beq_eq_false_iff_ne]; omega
    clear hl hb hq hq1 HQ HD h0
    go_enter Tryz.func93, Tryz.ntmps93
    go_wp2
    go_ret
    exact ⟨_, _, rfl, H1.out, Below.refl _ _, .inl rfl⟩

/-- Both numbers, written. -/
theorem ratAt_set {w : World} {b o : Nat} {q : Rat} {s1 s2 : Bool} {v1 v2 : Value} (hs : Slot w b o 4) (h1 : Words w v1 (dig q.num.natAbs)) (h2 : Words w v2 (dig (q.den : Int).natAbs)) (e1 : decide (q.num < 0) = s1) (e2 : decide ((q.den : Int) < 0) = s2) :
    RatAt ((((w.setCell ⟨b, o, none⟩ (.bool s1)).setCell ⟨b, o + 1, none⟩ v1).setCell ⟨b, o + 2, none⟩ (.bool s2)).setCell ⟨b, o + 2 + 1, none⟩ v2) b o q ∧
    Touch w ((((w.setCell ⟨b, o, none⟩ (.bool s1)).setCell ⟨b, o + 1, none⟩ v1).setCell ⟨b, o + 2, none⟩ (.bool s2)).setCell ⟨b, o + 2 + 1, none⟩ v2) b o 4 := by
  have ht : Touch w ((((w.setCell ⟨b, o, none⟩ (.bool s1)).setCell ⟨b, o + 1, none⟩ v1).setCell ⟨b, o + 2, none⟩ (.bool s2)).setCell ⟨b, o + 2 + 1, none⟩ v2) b o 4 :=
    ((((Touch.refl w b o 4).set_ o (by omega) _).set_ (o + 1) (by omega) _).set_ (o + 2) (by omega) _).set_ (o + 2 + 1) (by omega) _
  obtain ⟨cs, t, k1, k2, k3⟩ := id hs
  have hb : ((((w.setCell ⟨b, o, none⟩ (.bool s1)).setCell ⟨b, o + 1, none⟩ v1).setCell ⟨b, o + 2, none⟩ (.bool s2)).setCell ⟨b, o + 2 + 1, none⟩ v2).heap[b]? = some (.cells ((((cs.setIfInBounds o (.bool s1)).setIfInBounds (o + 1) v1).setIfInBounds (o + 2) (.bool s2)).setIfInBounds (o + 2 + 1) v2) t (0, 0)) := by
    simp [World.setCell, Array.getElem?_modify, k1]
  have hsl := hs.touch ht
  have hw1 := h1.touch hs ht
  have hw2 := h2.touch hs ht
  refine ⟨⟨hsl, ⟨hsl.part (by omega), ?_, v1, ?_, hw1⟩, q.den, ⟨hsl.part (by omega), ?_, v2, ?_, hw2⟩, .inl rfl⟩, ht⟩
  · rw [cell_of_row _ _ _ _ _ _ hb, Array.getElem?_setIfInBounds_ne (by omega), Array.getElem?_setIfInBounds_ne (by omega), Array.getElem?_setIfInBounds_ne (by omega), Array.getElem?_setIfInBounds_self_of_lt (by omega), e1]
  · rw [cell_of_row _ _ _ _ _ _ hb, Array.getElem?_setIfInBounds_ne (by omega), Array.getElem?_setIfInBounds_ne (by omega), Array.getElem?_setIfInBounds_self_of_lt (by simp; omega)]
  · rw [cell_of_row _ _ _ _ _ _ hb, Array.getElem?_setIfInBounds_ne (by omega), Array.getElem?_setIfInBounds_self_of_lt (by simp; omega), e2]
  · rw [cell_of_row _ _ _ _ _ _ hb, Array.getElem?_setIfInBounds_self_of_lt (by simp; omega)]

set_option maxHeartbeats 1600000 in
theorem SetFrac_any {w : World} {b o c p d q : Nat} {n m : Int} (hz : Slot w b o 4) (hx : IntAt w c p n) (hy : IntAt w d q m) (h0 : m ≠ 0) (hn : Okn n) (hm : Okn m) :
    Calls Tryz.prog 82 #[.pointer (some ⟨b, o, none⟩), .pointer (some ⟨c, p, none⟩), .pointer (some ⟨d, q, none⟩)] w fun e w' => e = .returned (.pointer (some ⟨b, o, none⟩)) ∧ RatAt w' b o (Rat.divInt n m) ∧ Touch w w' b o 4 := by
  have HX := Lib.hid hx
  have HY := Lib.hid hy
  have HZ := Lib.hid hz
  have HN := Lib.hid hn
  have HM := Lib.hid hm
  have H0 := Lib.hid h0
  clear hx hy hz hn hm h0
  go_enter Tryz.func82, Tryz.ntmps82
  go_wp2_with fail
  have ha : Below w.heap.size w (w.alloc (.cells #[.bool false, .slice none 0 0] 83)) := (Below.refl _ _).alloc (Nat.le_refl _) _
  refine (gcd_any (IntAt.new w).slot (HX.out.on ha) (HY.out.on ha) HN.out HM.out).mono ?_
  rintro e w1 ⟨rfl, h1, h2⟩
  have hb1 := ha.trans (h2.below (Nat.le_refl _) ha.size)
  have HX1 := Lib.hid (HX.out.on hb1)
  have HY1 := Lib.hid (HY.out.on hb1)
  have HZ1 := Lib.hid (HZ.out.on hb1)
  have HB1 := Lib.hid hb1
  have HG1 := Lib.hid h1
  have HBZ : Hid (w.heap.size ≠ b) := by have := HZ.out.lt; unfold Hid; omega
  obtain ⟨B, lb, cb, hd0, _, _, hlt⟩ := HY1.out.open_
  have HGZ : Hid (Slot w1 w.heap.size 0 2) := h1.slot
  obtain ⟨G, hG⟩ : ∃ G : Int, G = if m < 0 then -(Int.gcd n m : Int) else (Int.gcd n m : Int) := ⟨_, rfl⟩
  obtain ⟨hg0, hgn, hgd⟩ := setFrac_of n m H0.out G hG
  have HG0 := Lib.hid hg0
  have HGN := Lib.hid hgn
  have HGD := Lib.hid hgd
  have HGV := Lib.hid hG
  clear h1 h2 ha hb1 hg0 hgn hgd hG
  go_upto_if 17 with (fail)
  go_cut [] from 17 to 20 (fun wc => Hid (IntAt wc w.heap.size 0 G) ∧ Hid (Below w.heap.size w wc))
  case first =>
    by_cases k : m < 0
    · have kd : decide (m < 0) = true := by simpa using k
      rw [kd] at hd0
      have HE : Hid (-(Int.gcd n m : Int) = G) := by have := HGV.out; rw [if_pos k] at this; exact this.symm
      go_wp2_with fail
      refine (neg_any HGZ.out HG1.out).mono ?_
      rintro e w2 ⟨rfl, h1, h2⟩
      rw [HE.out] at h1
      have H1 := Lib.hid h1
      have HB2 := Lib.hid (HB1.out.trans (h2.below (Nat.le_refl _) HB1.out.size))
      clear h1 h2
      go_wp2_with fail
      go_meet
      exact ⟨H1.out, HB2.out⟩
    · have kd : decide (m < 0) = false := by simpa using k
      rw [kd] at hd0
      have HE : Hid ((Int.gcd n m : Int) = G) := by have := HGV.out; rw [if_neg k] at this; exact this.symm
      have H1 : Hid (IntAt w1 w.heap.size 0 G) := by rw [← HE.out]; exact HG1.out
      go_wp2_with fail
      go_meet
      exact ⟨H1.out, HB1.out⟩
  case rest =>
    obtain ⟨HGG, HBB⟩ := hcut
    have ha : Below wc.heap.size wc (wc.alloc (.cells #[.bool false, .slice none 0 0] 83)) := (Below.refl _ _).alloc (Nat.le_refl _) _
    go_wp2_with fail
    refine (Quo_any (IntAt.new wc).slot ((HX.out.on HBB.out).on ha) (HGG.out.on ha) HG0.out HN.out).mono ?_
    rintro e w3 ⟨rfl, h1, h2⟩
    rw [HGN.out] at h1
    have hb3 := ha.trans (h2.below (Nat.le_refl _) ha.size)
    have HB3 := Lib.hid hb3
    have HN3 := Lib.hid h1
    clear h1 h2 ha hb3
    have ha : Below w3.heap.size w3 (w3.alloc (.cells #[.bool false, .slice none 0 0] 83)) := (Below.refl _ _).alloc (Nat.le_refl _) _
    go_wp2_with fail
    refine (Quo_any (IntAt.new w3).slot (((HY.out.on HBB.out).on HB3.out).on ha) ((HGG.out.on HB3.out).on ha) HG0.out HM.out).mono ?_
    rintro e w4 ⟨rfl, h1, h2⟩
    rw [HGD.out] at h1
    have hb4 := ha.trans (h2.below (Nat.le_refl _) ha.size)
    have HN4 := Lib.hid (HN3.out.on hb4)
    have HD4 := Lib.hid h1
    have HZ4 : Hid (Slot w4 b o 4) := ((HZ.out.on HBB.out).on HB3.out).on hb4
    have HB4 : Hid (Below w.heap.size w w4) := HBB.out.trans ((HB3.out.mono HBB.out.size).trans (hb4.mono (Nat.le_trans HBB.out.size HB3.out.size)))
    have HNE : Hid (wc.heap.size ≠ b ∧ w3.heap.size ≠ b) := by
      have h3 := HZ.out.lt
      have h4 := HBB.out.size
      have h5 := HB3.out.size
      constructor <;> omega
    clear h1 h2 ha hb4 HN3 HX1 HY1 HZ1 HB1 HG1 HGZ HGG HX HY HZ hd0 hlt
    revert HNE HN4 HD4
    clear HBB HB3
    generalize wc.heap.size = g1
    generalize w3.heap.size = g2
    intro HN4 HD4 HNE
    obtain ⟨A1, l1, c1, hn0, hn1, hnv, hnl⟩ := HN4.out.open_
    obtain ⟨A2, l2, c2, hd0, hd1, hdv, hdl⟩ := HD4.out.open_
    have HW1 := Lib.hid hnv
    have HW2 := Lib.hid hdv
    clear hnv hdv
    rw [Nat.zero_add] at hn1 hd1
    generalize hs1 : decide ((Rat.divInt n m).num < 0) = s1 at hn0
    generalize hs2 : decide (((Rat.divInt n m).den : Int) < 0) = s2 at hd0
    have HS1 := Lib.hid hs1
    have HS2 := Lib.hid hs2
    clear hs1 hs2
    obtain ⟨v0, hv0⟩ := HZ4.out.cell o (by omega)
    obtain ⟨v1, hv1⟩ := HZ4.out.cell (o + 1) (by omega)
    obtain ⟨v2, hv2⟩ := HZ4.out.cell (o + 2) (by omega)
    obtain ⟨v3, hv3⟩ := HZ4.out.cell (o + 2 + 1) (by omega)
    have hf : ∀ i, w4.frozen? ⟨b, i, none⟩ = false := fun i => HZ4.out.frozen i
    have hg1 := HNE.out.1
    have hg2 := HNE.out.2
    go_wp2
    go_region
    obtain ⟨hr, ht⟩ := ratAt_set HZ4.out HW1.out HW2.out HS1.out HS2.out
    have HRA := Lib.hid hr
    have HTO := Lib.hid ht
    clear hr ht
    go_wp2
    go_ret
    exact ⟨rfl, HRA.out.on (Below.refl _ _).drew, (((Touch.of_below HB4.out b o 4).trans HTO.out)).drew⟩
end Go.Proofs.YtaenedjanckaiaaGreat
