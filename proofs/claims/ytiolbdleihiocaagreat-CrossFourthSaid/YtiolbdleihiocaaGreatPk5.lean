/- Nb, Rat, RegG, RegH, RatB. -/
import Derived.Test.YtiolbdleihiocaaGreatPk4
namespace Go.Proofs.YtiolbdleihiocaaGreat
set_option linter.unnecessarySimpa false
set_option linter.unusedVariables false
set_option linter.unusedSimpArgs false
/- Package frac: number, back. -/
section
open Go.RowKit

theorem size_alloc (w : World) (o : Obj) : (w.alloc o).heap.size = w.heap.size + 1 := by simp
theorem byt_row {W : World} (s : ByteArray) (c cap n : Nat) (fr : Nat × Nat) (hn : n = W.heap.size) : Byt ((W.alloc (.cells (bytesRow s c) 5 fr)).drew) (.slice (some ⟨n, 0, none⟩) s.size cap) (leS s).reverse := by
  subst hn
  have hl : (leS s).reverse.length = s.size := by rw [List.length_reverse, leS_len]
  refine ⟨(B8_leS s).reverse, W.heap.size, cap, bytesRow s c, 5, fr, by rw [hl], ?_, ?_⟩
  · exact heap_alloc_new W _
  · intro i hi
    rw [hl] at hi
    have hd : i < s.data.size := hi
    rw [bytesRow_at s _ i hd, leS, List.reverse_reverse, getD_in (by rw [List.length_map]; exact hd), List.getElem_map]
    rfl
theorem IntAt.new_at {w : World} {n : Nat} (hn : n = w.heap.size) : IntAt (w.alloc (.cells #[.bool false, .slice none 0 0] 218)) n 0 0 := hn ▸ IntAt.new w
theorem below_row (W : World) (c : Array Value) (t : TypeId) (fr : Nat × Nat) : Below W.heap.size W ((W.alloc (.cells c t fr)).drew) := ((Below.refl _ _).alloc (Nat.le_refl _) _).drew
theorem below_new (W : World) (o : Obj) : Below W.heap.size W (W.alloc o) := (Below.refl _ _).alloc (Nat.le_refl _) _

set_option maxRecDepth 100000 in
theorem number_any {w : World} (b : Bool) (s : ByteArray) (hs : s.size ≤ 4294967296) :
    Calls Tryz.prog 275 #[.agg #[.bool b, .string s]] w fun e w' => ∃ g, e = .returned (.pointer (some ⟨g, 0, none⟩)) ∧ w.heap.size ≤ g ∧ IntAt w' g 0 (numOf b s) ∧ Below w.heap.size w w' := by
  have hcv := fun (w : World) => run_bytes_of_string (P := Tryz.prog) w 9 232 5 s Tryz.underlying9 Tryz.underlying232 Tryz.underlying5
  have HS := Lib.hid hs
  have HB := Lib.hid (below_new w (.cells #[.bool b, .string s] 23))
  have HX := Lib.hid (BoxAt.new w #[.bool b, .string s] 23)
  clear hs
  go_enter Tryz.func275, Tryz.ntmps275
  go_wp2_with fail
  generalize hW2 : (w.alloc (.cells #[.bool b, .string s] 23)).alloc (.cells #[.bool false, .slice none 0 0] 218) = W2
  have hi : IntAt W2 (w.heap.size + 1) 0 0 := by rw [← hW2]; exact IntAt.new_at (size_alloc _ _).symm
  have hx : BoxAt W2 w.heap.size #[.bool b, .string s] 23 := by rw [← hW2]; exact HX.out.on (below_new _ _)
  have hb : Below w.heap.size w W2 := by rw [← hW2]; exact HB.out.trans ((below_new _ _).mono (by simp))
  have hsz : w.heap.size + 1 + 1 = W2.heap.size := by rw [← hW2]; simp
  have hby := byt_row (W := W2) s (grownCap W2 s.size 0 5) (grownCap W2 s.size 0 5) (w.heap.size + 1 + 1) ((bytesRow s (grownCap W2 s.size 0 5)).size, (bytesRow s (grownCap W2 s.size 0 5)).size + 1) hsz
  have hbl := below_row W2 (bytesRow s (grownCap W2 s.size 0 5)) 5 ((bytesRow s (grownCap W2 s.size 0 5)).size, (bytesRow s (grownCap W2 s.size 0 5)).size + 1)
  clear hW2
  generalize grownCap W2 s.size 0 5 = c at hby hbl ⊢
  generalize (W2.alloc (.cells (bytesRow s c) 5 ((bytesRow s c).size, (bytesRow s c).size + 1))).drew = W3 at hby hbl ⊢
  refine (SetBytes_any (hi.on hbl).slot hby HS.out).mono ?_
  rintro e w1 ⟨rfl, h1, h2⟩
  rw [List.reverse_reverse] at h1
  have HX1 := Lib.hid (hx.on hbl)
  have HB1 := Lib.hid (hb.trans (hbl.mono hb.size))
  have HI := Lib.hid h1
  have HT := Lib.hid (h2.below (B := w.heap.size + 1) (Nat.le_refl _) (by have := hbl.size; omega))
  have hc0 : w1.cell? ⟨w.heap.size, 0, none⟩ = some (.bool b) := by rw [HT.out.cell (by simp)]; exact HX1.out.cell 0 _ rfl
  have hc1 : w1.cell? ⟨w.heap.size, 1, none⟩ = some (.string s) := by rw [HT.out.cell (by simp)]; exact HX1.out.cell 1 _ rfl
  have HBB := Lib.hid (HB1.out.trans (HT.out.mono (by omega)))
  clear h1 h2 hi hx hb hsz hby hbl
  cases b
  · go_wp2
    go_ret
    refine ⟨_, rfl, by omega, ?_, HBB.out⟩
    have := HI.out
    simpa [numOf, sg, num] using this
  · go_wp2_with fail
    refine (neg_any HI.out.slot HI.out).mono ?_
    rintro e w2 ⟨rfl, h1, h2⟩
    have H1 := Lib.hid h1
    have H2 := Lib.hid (HBB.out.trans (h2.below (by omega) HBB.out.size))
    clear h1 h2 hc0 hc1
    go_wp2
    go_ret
    refine ⟨_, rfl, by omega, ?_, H2.out⟩
    have := H1.out
    simpa [numOf, sg, num] using this

set_option maxRecDepth 100000 in
theorem back_any {w : World} {b o : Nat} {n : Int} (hx : IntAt w b o n) (hn : Okn n) :
    Calls Tryz.prog 272 #[.pointer (some ⟨b, o, none⟩)] w fun e w' => e = .returned (wholeV n) ∧ Below w.heap.size w w' := by
  have HB := Lib.hid (below_new w (.cells #[.bool false, .string ⟨#[]⟩] 23))
  have hx1 := hx.on HB.out
  have HX := Lib.hid hx1
  have HN := Lib.hid hn
  have HC := Lib.hid (BoxAt.new w #[.bool false, .string ⟨#[]⟩] 23)
  obtain ⟨s, hs⟩ : ∃ s, s = decide (n < 0) := ⟨_, rfl⟩
  have hsg : decide (n.sign < 0) = s := by
    rw [hs]
    refine decide_eq_decide.2 ?_
    exact Int.sign_neg_iff
  have HSG := Lib.hid hs
  clear hx hx1 hn hs
  go_enter Tryz.func272, Tryz.ntmps272
  go_wp2_with fail
  refine (sign_any HX.out).mono ?_
  rintro e w1 ⟨rfl, rfl⟩
  go_wp2_with fail
  refine (Bytes_any HX.out HN.out).mono ?_
  rintro e w2 ⟨v, rfl, hby, hb⟩
  obtain ⟨h, m, cap, rfl⟩ := hby.form
  have hcv := string_of_byt hby
  have hc0 := (HC.out.on hb).cell 0 _ rfl
  have hc1 := (HC.out.on hb).cell 1 _ rfl
  have hf := (HC.out.on hb).frozen
  have HK := Lib.hid (((HC.out.on hb).set 0 (.bool (decide (n < 0)))).set 1 (.string (strN (led n.natAbs).reverse)))
  have HB2 := Lib.hid (HB.out.trans (hb.mono HB.out.size))
  clear hby hb
  go_wp2
  have h0 := HK.out.cell 0 (.bool (decide (n < 0))) rfl
  have h1 := HK.out.cell 1 (.string (strN (led n.natAbs).reverse)) rfl
  exact bodyPost_ret (v := wholeV n) (by simp [results, Tryz.results272, go_sem, h0, h1, wholeV, mag]) rfl ⟨rfl, (HB2.out.setCell (Nat.le_refl _) _).setCell (Nat.le_refl _) _⟩
end
/- Package big: fractions: what lies in memory; den, SetFrac. -/
section
open Go.RowKit

/-- A fraction that lies at a place: two numbers; a second one that is 0 stands for 1. -/
def RatAt (w : World) (b o : Nat) (q : Rat) : Prop :=
  Slot w b o 4 ∧ IntAt w b o q.num ∧ ∃ d : Int, IntAt w b (o + 2) d ∧ (d = q.den ∨ d = 0 ∧ q.den = 1)

theorem RatAt.slot {w : World} {b o : Nat} {q : Rat} (h : RatAt w b o q) : Slot w b o 4 := h.1
theorem RatAt.lt {w : World} {b o : Nat} {q : Rat} (h : RatAt w b o q) : b < w.heap.size := h.1.lt
theorem RatAt.on {w w' : World} {b o : Nat} {q : Rat} (h : RatAt w b o q) (k : Below w.heap.size w w') : RatAt w' b o q := by
  obtain ⟨h1, h2, d, h3, h4⟩ := h
  exact ⟨h1.on k, h2.on k, d, h3.on k, h4⟩
theorem RatAt.touch {w w' : World} {b o n g i m : Nat} {q : Rat} (h : RatAt w g i q) (hs : Slot w b o m) (k : Touch w w' b o n) (hd : g ≠ b) : RatAt w' g i q := by
  obtain ⟨h1, h2, d, h3, h4⟩ := h
  exact ⟨h1.touch k, h2.touch hs k (.inl hd), d, h3.touch hs k (.inl hd), h4⟩
theorem RatAt.new (w : World) : RatAt (w.alloc (.cells #[.bool false, .slice none 0 0, .bool false, .slice none 0 0] 220)) w.heap.size 0 0 := by
  have hb := heap_alloc_new w (.cells #[.bool false, .slice none 0 0, .bool false, .slice none 0 0] 220)
  refine ⟨⟨_, _, hb, by decide, by simp⟩, ⟨⟨_, _, hb, by decide, by simp⟩, ?_, .slice none 0 0, ?_, ?_⟩, 0, ⟨⟨_, _, hb, by decide, by simp⟩, ?_, .slice none 0 0, ?_, ?_⟩, .inr ⟨rfl, rfl⟩⟩
  · rw [cell_of_row _ _ _ _ _ _ hb]; rfl
  · rw [cell_of_row _ _ _ _ _ _ hb]; rfl
  · rw [show (0 : Rat).num = 0 from rfl, Int.natAbs_zero, dig_zero]; exact Words.nil _
  · rw [cell_of_row _ _ _ _ _ _ hb]; rfl
  · rw [cell_of_row _ _ _ _ _ _ hb]; rfl
  · rw [Int.natAbs_zero, dig_zero]; exact Words.nil _

/-- What SetFrac makes of two numbers. -/
theorem setFrac_of (n m : Int) (h0 : m ≠ 0) (g : Int) (hg : g = if m < 0 then -(Int.gcd n m : Int) else (Int.gcd n m : Int)) : g ≠ 0 ∧ n.tdiv g = (Rat.divInt n m).num ∧ m.tdiv g = (Rat.divInt n m).den := by
  have hgp : 0 < Int.gcd n m := Int.gcd_pos_of_ne_zero_right _ h0
  obtain ⟨k, hk⟩ := Int.gcd_dvd_left n m
  obtain ⟨l, hl⟩ := Int.gcd_dvd_right n m
  rw [Rat.num_divInt, Rat.den_divInt, if_neg h0, Int.gcd_comm m n]
  generalize Int.gcd n m = c at *
  have hc : (c : Int) ≠ 0 := by omega
  by_cases h : m < 0
  · rw [if_pos h] at hg
    subst hg
    refine ⟨by omega, ?_, ?_⟩
    · rw [Int.sign_eq_neg_one_of_neg h, hk, Int.tdiv_neg, Int.mul_tdiv_cancel_left _ hc, Int.neg_mul, Int.one_mul, ← Int.mul_neg, Int.mul_ediv_cancel_left _ hc]
    · rw [hl, Int.tdiv_neg, Int.mul_tdiv_cancel_left _ hc, Int.natAbs_mul, Int.natAbs_natCast, Nat.mul_div_cancel_left _ hgp]
      have : l < 0 := by
        rcases Int.lt_or_le l 0 with h1 | h1
        · exact h1
        · have := Int.mul_nonneg (Int.natCast_nonneg c) h1; omega
      omega
  · rw [if_neg h] at hg
    subst hg
    refine ⟨hc, ?_, ?_⟩
    · rw [Int.sign_eq_one_of_pos (by omega), hk, Int.mul_tdiv_cancel_left _ hc, Int.one_mul, Int.mul_ediv_cancel_left _ hc]
    · rw [hl, Int.mul_tdiv_cancel_left _ hc, Int.natAbs_mul, Int.natAbs_natCast, Nat.mul_div_cancel_left _ hgp]
      have : 0 ≤ l := by
        rcases Int.lt_or_le l 0 with h1 | h1
        · have := Int.mul_neg_of_pos_of_neg (show 0 < (c : Int) by omega) h1; omega
        · exact h1
      omega

theorem den_any {w : World} {b o : Nat} {q : Rat} (hx : RatAt w b o q) :
    Calls Tryz.prog 254 #[.pointer (some ⟨b, o, none⟩)] w fun e w' => ∃ g i, e = .returned (.pointer (some ⟨g, i, none⟩)) ∧ IntAt w' g i q.den ∧ Below w.heap.size w w' ∧ (g = b ∨ w.heap.size ≤ g) := by
  obtain ⟨hs, hn, d, hd, hq⟩ := hx
  obtain ⟨A, la, ca, hd0, hd1, hdv, hlt⟩ := hd.open_
  have hl := hdv.len.1
  have hb := hdv.2.1
  have HD := Lib.hid hd
  have HQ := Lib.hid hq
  clear hs hn hdv hd0 hd
  by_cases h0 : d = 0
  · subst h0
    rw [Int.natAbs_zero, dig_zero] at hl
    obtain rfl : la = 0 := hl
    have hq1 : ((q.den : Nat) : Int) = 1 := by have := q.den_pos; omega
    rw [hq1]
    clear hb hq hq1
    go_enter Tryz.func254, Tryz.ntmps254
    go_wp2_with fail
    refine (NewInt_any (by omega)).mono ?_
    rintro e w1 ⟨b1, rfl, h0, h1, h2⟩
    have H0 := Lib.hid h0
    have H1 := Lib.hid h1
    have H2 := Lib.hid h2
    clear h1 h2 h0
    go_wp2
    go_ret
    exact ⟨_, _, rfl, H1.out, H2.out, .inr H0.out⟩
  · have hl0 : 0 < la := by
      rcases Nat.eq_zero_or_pos la with h | h
      · rw [h] at hl
        have := (dig_nil_iff d.natAbs).1 (List.eq_nil_of_length_eq_zero hl.symm)
        omega
      · exact h
    have hlb : la ≤ 17179869184 := by omega
    have hq1 : d = q.den := by omega
    have H1 : Hid (IntAt w b (o + 2) q.den) := by rw [← hq1]; exact HD.out
    have hne : ((la : Int) == 0) = false := by rw [beq_eq_false_iff_ne]; omega
    clear hl hb hq hq1 HQ HD h0
    go_enter Tryz.func254, Tryz.ntmps254
    go_wp2
    go_ret
    exact ⟨_, _, rfl, H1.out, Below.refl _ _, .inl rfl⟩

/-- Both numbers, written. -/
theorem ratAt_set {w : World} {b o : Nat} {q : Rat} {s1 s2 : Bool} {v1 v2 : Value} (hs : Slot w b o 4) (h1 : Words w v1 (dig q.num.natAbs)) (h2 : Words w v2 (dig (q.den : Int).natAbs)) (e1 : decide (q.num < 0) = s1) (e2 : decide ((q.den : Int) < 0) = s2) :
    RatAt ((((w.setCell ⟨b, o, none⟩ (.bool s1)).setCell ⟨b, o + 1, none⟩ v1).setCell ⟨b, o + 2, none⟩ (.bool s2)).setCell ⟨b, o + 2 + 1, none⟩ v2) b o q ∧
    Touch w ((((w.setCell ⟨b, o, none⟩ (.bool s1)).setCell ⟨b, o + 1, none⟩ v1).setCell ⟨b, o + 2, none⟩ (.bool s2)).setCell ⟨b, o + 2 + 1, none⟩ v2) b o 4 := by
  have ht : Touch w ((((w.setCell ⟨b, o, none⟩ (.bool s1)).setCell ⟨b, o + 1, none⟩ v1).setCell ⟨b, o + 2, none⟩ (.bool s2)).setCell ⟨b, o + 2 + 1, none⟩ v2) b o 4 :=
    ((((Touch.refl w b o 4).set_ o (by omega) _).set_ (o + 1) (by omega) _).set_ (o + 2) (by omega) _).set_ (o + 2 + 1) (by omega) _
  obtain ⟨cs, t, k1, k2, k3⟩ := id hs
  have hb : ((((w.setCell ⟨b, o, none⟩ (.bool s1)).setCell ⟨b, o + 1, none⟩ v1).setCell ⟨b, o + 2, none⟩ (.bool s2)).setCell ⟨b, o + 2 + 1, none⟩ v2).heap[b]? = some (.cells ((((cs.setIfInBounds o (.bool s1)).setIfInBounds (o + 1) v1).setIfInBounds (o + 2) (.bool s2)).setIfInBounds (o + 2 + 1) v2) t (0, 0)) := by
    simp [World.setCell, Array.getElem?_modify, k1]
  have hsl := hs.touch ht
  have hw1 := h1.touch hs ht
  have hw2 := h2.touch hs ht
  refine ⟨⟨hsl, ⟨hsl.part (by omega), ?_, v1, ?_, hw1⟩, q.den, ⟨hsl.part (by omega), ?_, v2, ?_, hw2⟩, .inl rfl⟩, ht⟩
  · rw [cell_of_row _ _ _ _ _ _ hb, Array.getElem?_setIfInBounds_ne (by omega), Array.getElem?_setIfInBounds_ne (by omega), Array.getElem?_setIfInBounds_ne (by omega), Array.getElem?_setIfInBounds_self_of_lt (by omega), e1]
  · rw [cell_of_row _ _ _ _ _ _ hb, Array.getElem?_setIfInBounds_ne (by omega), Array.getElem?_setIfInBounds_ne (by omega), Array.getElem?_setIfInBounds_self_of_lt (by simp; omega)]
  · rw [cell_of_row _ _ _ _ _ _ hb, Array.getElem?_setIfInBounds_ne (by omega), Array.getElem?_setIfInBounds_self_of_lt (by simp; omega), e2]
  · rw [cell_of_row _ _ _ _ _ _ hb, Array.getElem?_setIfInBounds_self_of_lt (by simp; omega)]

set_option maxHeartbeats 1600000 in
theorem SetFrac_any {w : World} {b o c p d q : Nat} {n m : Int} (hz : Slot w b o 4) (hx : IntAt w c p n) (hy : IntAt w d q m) (h0 : m ≠ 0) (hn : Okn n) (hm : Okn m) :
    Calls Tryz.prog 256 #[.pointer (some ⟨b, o, none⟩), .pointer (some ⟨c, p, none⟩), .pointer (some ⟨d, q, none⟩)] w fun e w' => e = .returned (.pointer (some ⟨b, o, none⟩)) ∧ RatAt w' b o (Rat.divInt n m) ∧ Touch w w' b o 4 := by
  have HX := Lib.hid hx
  have HY := Lib.hid hy
  have HZ := Lib.hid hz
  have HN := Lib.hid hn
  have HM := Lib.hid hm
  have H0 := Lib.hid h0
  clear hx hy hz hn hm h0
  go_enter Tryz.func256, Tryz.ntmps256
  go_wp2_with fail
  have ha : Below w.heap.size w (w.alloc (.cells #[.bool false, .slice none 0 0] 218)) := (Below.refl _ _).alloc (Nat.le_refl _) _
  refine (gcd_any (IntAt.new w).slot (HX.out.on ha) (HY.out.on ha) HN.out HM.out).mono ?_
  rintro e w1 ⟨rfl, h1, h2⟩
  have hb1 := ha.trans (h2.below (Nat.le_refl _) ha.size)
  have HX1 := Lib.hid (HX.out.on hb1)
  have HY1 := Lib.hid (HY.out.on hb1)
  have HZ1 := Lib.hid (HZ.out.on hb1)
  have HB1 := Lib.hid hb1
  have HG1 := Lib.hid h1
  have HBZ : Hid (w.heap.size ≠ b) := by have := HZ.out.lt; unfold Hid; omega
  obtain ⟨B, lb, cb, hd0, _, _, hlt⟩ := HY1.out.open_
  have HGZ : Hid (Slot w1 w.heap.size 0 2) := h1.slot
  obtain ⟨G, hG⟩ : ∃ G : Int, G = if m < 0 then -(Int.gcd n m : Int) else (Int.gcd n m : Int) := ⟨_, rfl⟩
  obtain ⟨hg0, hgn, hgd⟩ := setFrac_of n m H0.out G hG
  have HG0 := Lib.hid hg0
  have HGN := Lib.hid hgn
  have HGD := Lib.hid hgd
  have HGV := Lib.hid hG
  clear h1 h2 ha hb1 hg0 hgn hgd hG
  go_upto_if 17 with (fail)
  go_cut [] from 17 to 20 (fun wc => Hid (IntAt wc w.heap.size 0 G) ∧ Hid (Below w.heap.size w wc))
  case first =>
    by_cases k : m < 0
    · have kd : decide (m < 0) = true := by simpa using k
      rw [kd] at hd0
      have HE : Hid (-(Int.gcd n m : Int) = G) := by have := HGV.out; rw [if_pos k] at this; exact this.symm
      go_wp2_with fail
      refine (neg_any HGZ.out HG1.out).mono ?_
      rintro e w2 ⟨rfl, h1, h2⟩
      rw [HE.out] at h1
      have H1 := Lib.hid h1
      have HB2 := Lib.hid (HB1.out.trans (h2.below (Nat.le_refl _) HB1.out.size))
      clear h1 h2
      go_wp2_with fail
      go_meet
      exact ⟨H1.out, HB2.out⟩
    · have kd : decide (m < 0) = false := by simpa using k
      rw [kd] at hd0
      have HE : Hid ((Int.gcd n m : Int) = G) := by have := HGV.out; rw [if_neg k] at this; exact this.symm
      have H1 : Hid (IntAt w1 w.heap.size 0 G) := by rw [← HE.out]; exact HG1.out
      go_wp2_with fail
      go_meet
      exact ⟨H1.out, HB1.out⟩
  case rest =>
    obtain ⟨HGG, HBB⟩ := hcut
    have ha : Below wc.heap.size wc (wc.alloc (.cells #[.bool false, .slice none 0 0] 218)) := (Below.refl _ _).alloc (Nat.le_refl _) _
    go_wp2_with fail
    refine (Quo_any (IntAt.new wc).slot ((HX.out.on HBB.out).on ha) (HGG.out.on ha) HG0.out HN.out).mono ?_
    rintro e w3 ⟨rfl, h1, h2⟩
    rw [HGN.out] at h1
    have hb3 := ha.trans (h2.below (Nat.le_refl _) ha.size)
    have HB3 := Lib.hid hb3
    have HN3 := Lib.hid h1
    clear h1 h2 ha hb3
    have ha : Below w3.heap.size w3 (w3.alloc (.cells #[.bool false, .slice none 0 0] 218)) := (Below.refl _ _).alloc (Nat.le_refl _) _
    go_wp2_with fail
    refine (Quo_any (IntAt.new w3).slot (((HY.out.on HBB.out).on HB3.out).on ha) ((HGG.out.on HB3.out).on ha) HG0.out HM.out).mono ?_
    rintro e w4 ⟨rfl, h1, h2⟩
    rw [HGD.out] at h1
    have hb4 := ha.trans (h2.below (Nat.le_refl _) ha.size)
    have HN4 := Lib.hid (HN3.out.on hb4)
    have HD4 := Lib.hid h1
    have HZ4 : Hid (Slot w4 b o 4) := ((HZ.out.on HBB.out).on HB3.out).on hb4
    have HB4 : Hid (Below w.heap.size w w4) := HBB.out.trans ((HB3.out.mono HBB.out.size).trans (hb4.mono (Nat.le_trans HBB.out.size HB3.out.size)))
    have HNE : Hid (wc.heap.size ≠ b ∧ w3.heap.size ≠ b) := by
      have h3 := HZ.out.lt
      have h4 := HBB.out.size
      have h5 := HB3.out.size
      constructor <;> omega
    clear h1 h2 ha hb4 HN3 HX1 HY1 HZ1 HB1 HG1 HGZ HGG HX HY HZ hd0 hlt
    revert HNE HN4 HD4
    clear HBB HB3
    generalize wc.heap.size = g1
    generalize w3.heap.size = g2
    intro HN4 HD4 HNE
    obtain ⟨A1, l1, c1, hn0, hn1, hnv, hnl⟩ := HN4.out.open_
    obtain ⟨A2, l2, c2, hd0, hd1, hdv, hdl⟩ := HD4.out.open_
    have HW1 := Lib.hid hnv
    have HW2 := Lib.hid hdv
    clear hnv hdv
    rw [Nat.zero_add] at hn1 hd1
    generalize hs1 : decide ((Rat.divInt n m).num < 0) = s1 at hn0
    generalize hs2 : decide (((Rat.divInt n m).den : Int) < 0) = s2 at hd0
    have HS1 := Lib.hid hs1
    have HS2 := Lib.hid hs2
    clear hs1 hs2
    obtain ⟨v0, hv0⟩ := HZ4.out.cell o (by omega)
    obtain ⟨v1, hv1⟩ := HZ4.out.cell (o + 1) (by omega)
    obtain ⟨v2, hv2⟩ := HZ4.out.cell (o + 2) (by omega)
    obtain ⟨v3, hv3⟩ := HZ4.out.cell (o + 2 + 1) (by omega)
    have hf : ∀ i, w4.frozen? ⟨b, i, none⟩ = false := fun i => HZ4.out.frozen i
    have hg1 := HNE.out.1
    have hg2 := HNE.out.2
    go_wp2
    go_region
    obtain ⟨hr, ht⟩ := ratAt_set HZ4.out HW1.out HW2.out HS1.out HS2.out
    have HRA := Lib.hid hr
    have HTO := Lib.hid ht
    clear hr ht
    go_wp2
    go_ret
    exact ⟨rfl, HRA.out.on (Below.refl _ _).drew, (((Touch.of_below HB4.out b o 4).trans HTO.out)).drew⟩
end
/- A region whose order is open, with a ghost: what has been done so far, and what it gave. -/
section
open Go

/-- What each operation gave, if it is done. -/
def Gh := Nat → Option Value
def gh0 : Gh := fun _ => none
def Gh.upd (γ : Gh) (k : Nat) (v : Value) : Gh := fun i => if i = k then some v else γ i
theorem Gh.upd_self (γ : Gh) (k : Nat) (v : Value) : γ.upd k v k = some v := if_pos rfl
theorem Gh.upd_ne (γ : Gh) {k i : Nat} (v : Value) (h : i ≠ k) : γ.upd k v i = γ i := if_neg h
def noGuard (l : List Oper) : Bool := l.all fun o => o.guard.isNone
theorem noGuard_spec {l : List Oper} (h : noGuard l = true) {i : Nat} {o : Oper} (hi : l[i]? = some o) : o.guard = none := by
  have := List.all_eq_true.1 h o (List.mem_of_getElem? hi)
  simpa using this
def stepG (P : Program) (C : Gh → World → Prop) (E : Gh → World → Gh → World → Prop) (V : Nat → Gh → World → Value → Prop) (Q : Exit → Act → World → Prop) (fill : (Nat → Value) → Act) (k : Nat) (o : Oper) : Prop :=
  ∀ u γ w, C γ w → γ k = none → depsR (fun i w v => γ i = some v ∧ V i γ w v) u w o.after.toList →
    ∀ K : Act → World → Prop, (∀ v w', C (γ.upd k v) w' → E γ w (γ.upd k v) w' → V k (γ.upd k v) w' v → K ((fill u).put o.dst v) w') → o.wp P (fill u) w K Q
def stepsG (P : Program) (C : Gh → World → Prop) (E : Gh → World → Gh → World → Prop) (V : Nat → Gh → World → Value → Prop) (Q : Exit → Act → World → Prop) (fill : (Nat → Value) → Act) : List Oper → Nat → Prop
  | [], _ => True
  | o :: r, k => stepG P C E V Q fill k o ∧ stepsG P C E V Q fill r (k + 1)
def allG (γ : Gh) (u : Nat → Value) : List Oper → Nat → Prop
  | [], _ => True
  | _ :: r, k => γ k = some (u k) ∧ allG γ u r (k + 1)
theorem allG_spec {γ : Gh} {u : Nat → Value} : ∀ {l : List Oper} {k : Nat}, (∀ i, i < l.length → γ (k + i) = some (u (k + i))) → allG γ u l k
  | [], _, _ => trivial
  | _ :: r, k, h => ⟨by simpa using h 0 (by simp), allG_spec fun i hi => by have := h (i + 1) (by simp; omega); rwa [show k + (i + 1) = k + 1 + i by omega] at this⟩
theorem stepsG_spec {P : Program} {C : Gh → World → Prop} {E : Gh → World → Gh → World → Prop} {V : Nat → Gh → World → Value → Prop} {Q : Exit → Act → World → Prop} {fill : (Nat → Value) → Act} :
    ∀ {l : List Oper} {k : Nat}, stepsG P C E V Q fill l k → ∀ i o, l[i]? = some o → stepG P C E V Q fill (k + i) o
  | [], _, _, i, o, hi => by simp at hi
  | o :: r, k, h, i, o', hi => by
    cases i with
    | zero => simp at hi; subst hi; exact h.1
    | succ i =>
      have := stepsG_spec h.2 i o' (by simpa using hi)
      rw [show k + (i + 1) = k + 1 + i by omega]
      exact this

theorem wp_region_eachG {P : Program} {id : Nat} {l : List Oper} {Q : Exit → Act → World → Prop} {a0 : Act} {w0 : World} (N : Nat) (C : Gh → World → Prop) (E : Gh → World → Gh → World → Prop) (V : Nat → Gh → World → Value → Prop)
    (hm : P.follows .mixedOrders = true) (hB : okR l N = true) (hG : noGuard (l.take N) = true) (h0 : C gh0 w0.drew) (hE : ∀ i γ w k x w' v, C γ w → C (γ.upd k x) w' → E γ w (γ.upd k x) w' → γ k = none → γ i = some v → V i γ w v → V i (γ.upd k x) w' v)
    (hstep : stepsG P C E V Q (fun u => fillR u (l.take N) 0 a0) (l.take N) 0)
    (hend : ∀ γ u w, C γ w → allG γ u (l.take N) 0 → allR (fun i => V i γ) u w (l.take N) 0 → wpList P l.toArray Q (l.drop N) (fillR u (l.take N) 0 a0) w) : (Code.region id l.toArray true).wp P Q a0 w0 := by
  simp only [okR, Bool.and_eq_true, Bool.or_eq_true, decide_eq_true_eq] at hB
  obtain ⟨⟨⟨⟨hdst, hback⟩, hN⟩, htail⟩, hseq⟩ := hB
  have hdis := distinct_of _ hdst
  have htl : (l.take N).length = N := by rw [List.length_take]; omega
  have hsz : l.toArray.size = l.length := by simp
  have hget : ∀ i, i < N → (l.take N)[i]? = l.toArray[i]? := by
    intro i hi
    rw [List.getElem?_take_of_lt hi]; simp
  have key : ∀ (f : Nat) (listed : Array Bool) (u : Nat → Value) (γ : Gh) (w : World), HeadInv .any l.toArray N listed → leftR N listed = f → C γ w → (∀ i, i < N → listed.getD i false = true → γ i = some (u i) ∧ V i γ w (u i)) → (∀ i, i < N → listed.getD i false = false → γ i = none) →
      wpAny P .any l.toArray Q (f + (l.length - N)) listed (fillR u (l.take N) 0 a0) w := by
    intro f
    induction f using Nat.strongRecOn with
    | ind f ih =>
      intro listed u γ w inv hf hC hV hgn
      by_cases hf0 : f = 0
      · subst hf0
        have hall := leftR_zero hf
        have hlisted : listed = arrR N (l.length - N) := by
          apply Array.ext_getElem?
          intro i
          have hls := inv.size
          by_cases hi : i < N
          · have h1 := hall i hi
            have his : i < listed.size := by omega
            simp [his] at h1
            rw [Array.getElem?_eq_getElem his, h1, arrR_get, if_pos hi]
          · by_cases hi2 : i < l.length
            · have h1 := inv.tail i (by omega) (by omega)
              have his : i < listed.size := by omega
              simp [his] at h1
              rw [Array.getElem?_eq_getElem his, h1, arrR_get, if_neg hi, if_pos (by omega)]
            · rw [Array.getElem?_eq_none (by omega), arrR_get, if_neg hi, if_neg (by omega)]
        have hdl : (l.drop N).length = l.length - N := List.length_drop
        have := wpAny_of_seq (md := .any) (Q' := Q) (P := P) (l.drop N) N listed (fillR u (l.take N) 0 a0) w (fun j => by simp [List.getElem?_drop]) (by rw [hdl, hlisted]; exact hseq)
          (hend γ u w hC (allG_spec fun i hi => by rw [Nat.zero_add]; rw [htl] at hi; exact (hV i hi (hall i hi)).1) (allR_spec fun i hi => by rw [Nat.zero_add]; rw [htl] at hi; exact (hV i hi (hall i hi)).2))
        rw [Nat.zero_add, ← hdl]
        exact this
      · obtain ⟨f', rfl⟩ : ∃ f', f = f' + 1 := ⟨f - 1, by omega⟩
        have hex : ∃ i, i < N ∧ listed.getD i false = false := by
          rcases Classical.em (∃ i, i < N ∧ listed.getD i false = false) with h | h
          · exact h
          · exfalso
            apply hf0
            rw [← hf, leftR, List.length_eq_zero_iff, List.filter_eq_nil_iff]
            intro i hi
            have hi := List.mem_range.1 hi
            cases hl : listed.getD i false with
            | true => simp
            | false => exact absurd ⟨i, hi, hl⟩ h
        rw [show f' + 1 + (l.length - N) = (f' + (l.length - N)) + 1 by omega]
        refine ⟨fun hnil => ?_, fun i hi => ?_⟩
        · exfalso
          suffices hno : ∀ i, i < N → listed.getD i false = false → False by
            obtain ⟨i, hiN, hil⟩ := hex
            exact hno i hiN hil
          intro i
          induction i using Nat.strongRecOn with
          | ind i ihi =>
            intro hiN hil
            have hob : (l.take N)[i]? = some ((l.take N)[i]'(by omega)) := List.getElem?_eq_getElem (by omega)
            have hb := List.all_eq_true.1 hback i (List.mem_range.2 (by omega))
            rw [hob] at hb
            have hb' := Array.all_eq_true'.1 hb
            rcases Classical.em (∃ e ∈ ((l.take N)[i]'(by omega)).after, Region.binds .any e = true ∧ listed.getD e.on false = false) with h | h
            · obtain ⟨e, he, hbe, hle⟩ := h
              have hlt : e.on < i := by have := hb' e he; rw [hbe] at this; simpa using this
              exact ihi e.on hlt (by omega) hle
            · have : i ∈ Region.ready .any l.toArray listed := mem_ready.2 ⟨getD_in (by rw [inv.size]; omega) hil, _, by rw [← hget i hiN]; exact hob, fun e he hbe => by
                cases hl : listed.getD e.on false with
                | true => rfl
                | false => exact absurd ⟨e, he, hbe, hl⟩ h⟩
              rw [hnil] at this
              cases this
        · have hiN : i < N := by
            rcases htail with h | h
            · obtain ⟨_, o, ho, _⟩ := mem_ready.1 hi
              have := (Array.getElem?_eq_some_iff.1 ho).1
              omega
            · rcases Nat.lt_or_ge i N with h1 | h1
              · exact h1
              · obtain ⟨i0, hi0, hl0⟩ := hex
                exact absurd hi (tail_waits h.1.2 h.2 (by rw [hsz]; exact h.1.1) inv _ i0 rfl hi0 (getD_in (by rw [inv.size]; omega) hl0) i h1)
          obtain ⟨hun, o, ho, hdep⟩ := mem_ready.1 hi
          have hol : (l.take N)[i]? = some o := by rw [hget i hiN]; exact ho
          have hlt : ∀ e ∈ o.after, Region.binds .any e = true → e.on < i := by
            intro e he hbe
            have hb := List.all_eq_true.1 hback i (List.mem_range.2 (by omega))
            rw [hol] at hb
            have := Array.all_eq_true'.1 hb e he
            rw [hbe] at this
            simpa using this
          have hgi : γ i = none := hgn i hiN (by
            have hun2 := hun
            simp only [Array.getD_eq_getD_getElem?] at hun2 ⊢
            cases h : listed[i]? with
            | none => rfl
            | some b => rw [h] at hun2; simpa using hun2)
          have hS := stepsG_spec hstep i o hol u γ w hC (by rw [Nat.zero_add]; exact hgi) (depsR_spec (V := fun i w v => γ i = some v ∧ V i γ w v) fun e he hbe => hV e.on (by have := hlt e (by simpa using he) hbe; omega) (hdep e (by simpa using he) hbe))
          rw [Nat.zero_add] at hS
          have next : ∀ v w', C (γ.upd i v) w' → E γ w (γ.upd i v) w' → V i (γ.upd i v) w' v → wpAny P .any l.toArray Q (f' + (l.length - N)) (listed.setIfInBounds i true) ((fillR u (l.take N) 0 a0).put o.dst v) w' := by
            intro v w' hC' hE' hVi
            rw [fillR_at u v (l.take N) 0 i a0 o hdis hol, Nat.zero_add]
            have hinv := inv.set hi hiN
            have hleft := leftR_set hiN hun
            have hV' : ∀ j, j < N → (listed.setIfInBounds i true).getD j false = true → (γ.upd i v) j = some ((fun j => if j = i then v else u j) j) ∧ V j (γ.upd i v) w' ((fun j => if j = i then v else u j) j) := by
              intro j hj hjl
              by_cases hji : j = i
              · subst hji; simpa [Gh.upd] using hVi
              · simp only [if_neg hji]
                rw [getD_set_ne false (Ne.symm hji)] at hjl
                obtain ⟨k1, k2⟩ := hV j hj hjl
                exact ⟨by simp only [Gh.upd, if_neg hji]; exact k1, hE j γ w i v w' _ hC hC' hE' hgi k1 k2⟩
            have hgn' : ∀ j, j < N → (listed.setIfInBounds i true).getD j false = false → (γ.upd i v) j = none := by
              intro j hj hjl
              by_cases hji : j = i
              · subst hji; rw [Array.getD_eq_getD_getElem?, Array.getElem?_setIfInBounds_self_of_lt (by rw [inv.size]; omega)] at hjl; cases hjl
              · rw [getD_set_ne false (Ne.symm hji)] at hjl
                simp only [Gh.upd, if_neg hji]
                exact hgn j hj hjl
            have hle : leftR N (listed.setIfInBounds i true) ≤ f' := by omega
            have hge : f' ≤ leftR N (listed.setIfInBounds i true) := by
              have : leftR N listed ≤ leftR N (listed.setIfInBounds i true) + 1 := by
                unfold leftR
                have hcount : ∀ m, ((List.range m).filter fun j => !listed.getD j false).length ≤ ((List.range m).filter fun j => !(listed.setIfInBounds i true).getD j false).length + (if i < m then 1 else 0) := by
                  intro m
                  induction m with
                  | zero => simp
                  | succ m ihm =>
                    rw [List.range_succ, List.filter_append, List.filter_append, List.length_append, List.length_append]
                    by_cases hmi : m = i
                    · subst hmi
                      have h1 : (List.filter (fun j => !listed.getD j false) [m]).length ≤ 1 := by
                        exact Nat.le_trans (List.length_filter_le _ _) (by simp)
                      rw [if_neg (by omega)] at ihm
                      rw [if_pos (by omega)]
                      omega
                    · have h1 : (List.filter (fun j => !(listed.setIfInBounds i true).getD j false) [m]) = (List.filter (fun j => !listed.getD j false) [m]) := by
                        simp only [List.filter_cons, List.filter_nil]
                        rw [getD_set_ne false (Ne.symm hmi)]
                      rw [h1]
                      split at ihm <;> split <;> omega
                have := hcount N
                split at this <;> omega
              omega
            have hex' : leftR N (listed.setIfInBounds i true) = f' := Nat.le_antisymm hle hge
            exact ih f' (by omega) (listed.setIfInBounds i true) _ _ w' hinv hex' hC' hV' hgn'
          unfold wpOp
          simp only [ho]
          have hg : o.guard = none := noGuard_spec hG hol
          rw [if_pos (by simp [Region.wanted, hg])]
          exact .inl (hS _ next)
  refine wp_region_any hm ?_
  have inv0 : HeadInv .any l.toArray N (Array.replicate l.toArray.size false) :=
    ⟨by simp, fun j oj _ hl => (by rw [getD_replicate_false] at hl; cases hl), fun t _ ht => getD_in (by simpa using ht) (getD_replicate_false _ _)⟩
  have hleft0 : leftR N (Array.replicate l.toArray.size false) = N := by
    unfold leftR
    rw [List.filter_eq_self.2 (fun i _ => by rw [getD_replicate_false]; rfl), List.length_range]
  obtain ⟨u0, hid⟩ : ∃ u0, fillR u0 (l.take N) 0 a0 = a0 :=
    ⟨fun i => match ((l.take N)[i]?).bind (·.dst) with | some d => a0.tmps.getD d undef | none => undef, fillR_id _ 0 a0 _ hdis (fun i o d hi ho => by simp [hi, ho])⟩
  have hk := key N (Array.replicate l.toArray.size false) u0 gh0 { w0 with drawn := w0.drawn + 1 } inv0 hleft0 h0 (fun i _ hl => by rw [getD_replicate_false] at hl; cases hl) (fun _ _ _ => rfl)
  rw [hid, show N + (l.length - N) = l.toArray.size by rw [hsz]; omega] at hk
  exact hk

def stepAG (P : Program) (C : Gh → World → Prop) (E : Gh → World → Gh → World → Prop) (V : Nat → Gh → World → Value → Prop) (Q : Exit → Act → World → Prop) (l : List Oper) (a0 : Act) (k : Nat) (o : Oper) : Prop :=
  ∀ (a : Act) (γ : Gh) (w : World), (∀ s, hasR l s = false → a.tmps.getD s undef = a0.tmps.getD s undef) → C γ w → γ k = none → depsA (fun i w v => γ i = some v ∧ V i γ w v) l a w o.after.toList →
    ∀ K : Act → World → Prop, (∀ v w', C (γ.upd k v) w' → E γ w (γ.upd k v) w' → V k (γ.upd k v) w' v → K (a.put o.dst v) w') → o.wp P a w K Q
def stepsAG (P : Program) (C : Gh → World → Prop) (E : Gh → World → Gh → World → Prop) (V : Nat → Gh → World → Value → Prop) (Q : Exit → Act → World → Prop) (h : List Oper) (a0 : Act) : List Oper → Nat → Prop
  | [], _ => True
  | o :: r, k => stepAG P C E V Q h a0 k o ∧ stepsAG P C E V Q h a0 r (k + 1)
theorem stepsG_of {P : Program} {C : Gh → World → Prop} {E : Gh → World → Gh → World → Prop} {V : Nat → Gh → World → Value → Prop} {Q : Exit → Act → World → Prop} {h : List Oper} {a0 : Act} (hd : distinct h) (hin : inB h a0.tmps.size = true)
    (hsl : slotB h = true) : ∀ (l : List Oper) (k : Nat), (∀ i, l[i]? = h[k + i]?) → stepsAG P C E V Q h a0 l k → stepsG P C E V Q (fun u => fillR u h 0 a0) l k
  | [], _, _, _ => trivial
  | o :: r, k, hl, hs => by
    have hi : h[k]? = some o := by simpa using (hl 0).symm
    refine ⟨fun u γ w hC hk hdep => ?_, stepsG_of hd hin hsl r (k + 1) (fun i => by have := hl (i + 1); rw [show k + 1 + i = k + (i + 1) by omega, ← this]; simp) hs.2⟩
    exact hs.1 (fillR u h 0 a0) γ w (fun s h1 => fillR_out u s h 0 a0 h1) hC hk (depsA_of hd hin (slotB_spec hsl hi) hdep)

theorem wp_region_ghost {P : Program} {id : Nat} {l : List Oper} {Q : Exit → Act → World → Prop} {a0 : Act} {w0 : World} (N : Nat) (C : Gh → World → Prop) (E : Gh → World → Gh → World → Prop) (V : Nat → Gh → World → Value → Prop)
    (hm : P.follows .mixedOrders = true) (hB : (okR l N && slotB (l.take N) && noGuard (l.take N)) = true) (hin : inB (l.take N) a0.tmps.size = true) (h0 : C gh0 w0.drew)
    (hE : ∀ i γ w k x w' v, C γ w → C (γ.upd k x) w' → E γ w (γ.upd k x) w' → γ k = none → γ i = some v → V i γ w v → V i (γ.upd k x) w' v)
    (hstep : stepsAG P C E V Q (l.take N) a0 (l.take N) 0)
    (hend : ∀ γ u w, C γ w → allG γ u (l.take N) 0 → allR (fun i => V i γ) u w (l.take N) 0 → wpList P l.toArray Q (l.drop N) (fillR u (l.take N) 0 a0) w) : (Code.region id l.toArray true).wp P Q a0 w0 := by
  rw [Bool.and_eq_true, Bool.and_eq_true] at hB
  refine wp_region_eachG N C E V hm hB.1.1 hB.2 h0 hE (stepsG_of ?_ hin hB.1.2 _ 0 (fun i => by rw [Nat.zero_add]) hstep) hend
  have h1 := hB.1.1
  simp only [okR, Bool.and_eq_true] at h1
  exact distinct_of _ h1.1.1.1.1
end
/- The ghost's discipline for new numbers: which blocks are whose, and which are yet to be written. -/
section
open Go.RowKit

/-- The block that a pointer lies in. -/
def blk (v : Value) : Option Nat := match v with
  | .pointer (some a) => some a.block
  | _ => none

/-- Since w0 only memory has been made; the owners' blocks are apart. -/
structure GC (base : Nat) (w0 : World) (ow : List Nat) (γ : Gh) (w : World) : Prop where
  below : Below base w0 w
  size : base ≤ w.heap.size
  lt : ∀ i ∈ ow, ∀ v g, γ i = some v → blk v = some g → g < w.heap.size
  apart : ∀ i ∈ ow, ∀ j ∈ ow, i ≠ j → ∀ v u g, γ i = some v → γ j = some u → blk v = some g → blk u = some g → g < base

/-- What stays: each number but those that are yet to be written; each place. -/
structure GE (base : Nat) (wr : List (Nat × Nat)) (γ : Gh) (w w' : World) : Prop where
  int : ∀ g o n, IntAt w g o n → (∃ p ∈ wr, ∃ v, γ p.1 = some v ∧ blk v = some g ∧ γ p.2 = none ∧ base ≤ g) ∨ IntAt w' g o n
  slot : ∀ g o n, Slot w g o n → Slot w' g o n

theorem GC.start {base : Nat} {w0 : World} (ow : List Nat) (hb : base ≤ w0.heap.size) : GC base w0 ow gh0 w0.drew :=
  ⟨(Below.refl _ _).drew, hb, (fun _ _ _ _ h => nomatch h), (fun _ _ _ _ _ _ _ _ h => nomatch h)⟩
theorem upd_some {γ : Gh} {k i : Nat} {x v : Value} (h : γ i = some v) (hk : γ k = none) : γ.upd k x i = some v := by
  rw [Gh.upd_ne γ x (fun e => by rw [e, hk] at h; cases h)]
  exact h
/-- An operation that gives no owner's block. -/
theorem GC.step {base : Nat} {w0 w w' : World} {ow : List Nat} {γ : Gh} (h : GC base w0 ow γ w) (k : Nat) (x : Value) (hk : ow.contains k = false) (hb : Below base w w') : GC base w0 ow (γ.upd k x) w' := by
  have hne : ∀ i ∈ ow, i ≠ k := fun i hi e => by subst e; rw [List.contains_iff_mem.2 hi] at hk; cases hk
  refine ⟨h.below.trans hb, Nat.le_trans h.size hb.size, fun i hi v g h1 h2 => ?_, fun i hi j hj hij v u g h1 h2 => ?_⟩
  · rw [Gh.upd_ne γ x (hne i hi)] at h1
    exact Nat.lt_of_lt_of_le (h.lt i hi v g h1 h2) hb.size
  · rw [Gh.upd_ne γ x (hne i hi)] at h1
    rw [Gh.upd_ne γ x (hne j hj)] at h2
    exact h.apart i hi j hj hij v u g h1 h2
/-- An operation that gives a new block, or one from before. -/
theorem GC.own {base : Nat} {w0 w w' : World} {ow : List Nat} {γ : Gh} (h : GC base w0 ow γ w) (k : Nat) (g o : Nat) (hb : Below w.heap.size w w') (hg : g < w'.heap.size) (hn : g < base ∨ w.heap.size ≤ g) :
    GC base w0 ow (γ.upd k (.pointer (some ⟨g, o, none⟩))) w' := by
  refine ⟨h.below.trans (hb.mono h.size), Nat.le_trans h.size hb.size, fun i hi v j h1 h2 => ?_, fun i hi j hj hij v u c h1 h2 h3 h4 => ?_⟩
  · by_cases e : i = k
    · subst e
      rw [Gh.upd_self] at h1
      cases h1
      cases h2
      exact hg
    · rw [Gh.upd_ne γ _ e] at h1
      exact Nat.lt_of_lt_of_le (h.lt i hi v j h1 h2) hb.size
  · by_cases e : i = k
    · subst e
      rw [Gh.upd_self] at h1
      rw [Gh.upd_ne γ _ (Ne.symm hij)] at h2
      cases h1
      cases h3
      have := h.lt j hj u _ h2 h4
      simp only at this ⊢
      omega
    · rw [Gh.upd_ne γ _ e] at h1
      by_cases e2 : j = k
      · subst e2
        rw [Gh.upd_self] at h2
        cases h2
        cases h4
        have := h.lt i hi v _ h1 h3
        simp only at this ⊢
        omega
      · rw [Gh.upd_ne γ _ e2] at h2
        exact h.apart i hi j hj hij v u c h1 h2 h3 h4
theorem GE.below {base : Nat} {w w' : World} (wr : List (Nat × Nat)) (γ : Gh) (h : Below w.heap.size w w') : GE base wr γ w w' :=
  ⟨fun _ _ _ k => .inr (k.on h), fun _ _ _ k => k.on h⟩
theorem GE.refl (base : Nat) (w : World) (wr : List (Nat × Nat)) (γ : Gh) : GE base wr γ w w := GE.below wr γ (Below.refl _ _)
/-- The operation that writes the block of another one's. -/
theorem GE.write {base : Nat} {w w' : World} {wr : List (Nat × Nat)} {γ : Gh} {g n : Nat} (a k : Nat) (hp : wr.contains (a, k) = true) (hs : Slot w g 0 n) (ht : Touch w w' g 0 n) (ha : γ a = some (.pointer (some ⟨g, 0, none⟩))) (hk : γ k = none) (hb : base ≤ g) : GE base wr γ w w' := by
  refine ⟨fun c o x hx => ?_, fun _ _ _ k => k.touch ht⟩
  by_cases e : c = g
  · subst e
    exact .inl ⟨(a, k), List.contains_iff_mem.1 hp, _, ha, rfl, hk, hb⟩
  · exact .inr (hx.touch hs ht (.inl e))

/-- A new place. -/
def VA (base : Nat) (w : World) (v : Value) : Prop := ∃ g, v = .pointer (some ⟨g, 0, none⟩) ∧ base ≤ g ∧ Slot w g 0 2
/-- A number of an owner's block. -/
def VD (n : Int) (w : World) (v : Value) : Prop := ∃ g i, v = .pointer (some ⟨g, i, none⟩) ∧ IntAt w g i n
/-- The number that has been written into the block of another one's. -/
def VM (base a : Nat) (n : Int) (γ : Gh) (w : World) (v : Value) : Prop := ∃ g, v = .pointer (some ⟨g, 0, none⟩) ∧ γ a = some (.pointer (some ⟨g, 0, none⟩)) ∧ base ≤ g ∧ IntAt w g 0 n

theorem VA.stable {base : Nat} {wr : List (Nat × Nat)} {γ : Gh} {w w' : World} {v : Value} (h : VA base w v) (hE : GE base wr γ w w') : VA base w' v := by
  obtain ⟨g, h1, h2, h3⟩ := h
  exact ⟨g, h1, h2, hE.slot _ _ _ h3⟩
theorem VD.stable {base : Nat} {w0 : World} {ow : List Nat} {wr : List (Nat × Nat)} {γ : Gh} {w w' : World} {v : Value} {n : Int} (i : Nat) (h : VD n w v) (hC : GC base w0 ow γ w) (hE : GE base wr γ w w') (hi : γ i = some v) (hb : (ow.contains i && wr.all fun p => ow.contains p.1 && p.1 != i) = true) : VD n w' v := by
  obtain ⟨g, o, rfl, h2⟩ := h
  rw [Bool.and_eq_true] at hb
  rcases hE.int _ _ _ h2 with ⟨p, hp, u, k1, k2, _, k4⟩ | k
  · have h3 := List.all_eq_true.1 hb.2 p hp
    rw [Bool.and_eq_true, bne_iff_ne] at h3
    have := hC.apart i (List.contains_iff_mem.1 hb.1) p.1 (List.contains_iff_mem.1 h3.1) (Ne.symm h3.2) _ _ g hi k1 rfl k2
    omega
  · exact ⟨g, o, rfl, k⟩
theorem VM.stable {base a : Nat} {w0 : World} {ow : List Nat} {wr : List (Nat × Nat)} {γ : Gh} {w w' : World} {v x : Value} {n : Int} (i k : Nat) (h : VM base a n γ w v) (hC : GC base w0 ow γ w) (hE : GE base wr γ w w') (hk : γ k = none) (hi : γ i = some v) (hb : (ow.contains a && wr.all fun p => ow.contains p.1 && (p.1 != a || p.2 == i)) = true) : VM base a n (γ.upd k x) w' v := by
  obtain ⟨g, rfl, h1, h2, h3⟩ := h
  rw [Bool.and_eq_true] at hb
  rcases hE.int _ _ _ h3 with ⟨p, hp, u, k1, k2, k3, k4⟩ | k5
  · have h4 := List.all_eq_true.1 hb.2 p hp
    rw [Bool.and_eq_true, Bool.or_eq_true, bne_iff_ne, beq_iff_eq] at h4
    by_cases e : p.1 = a
    · have : p.2 = i := by rcases h4.2 with h5 | h5; exact absurd e h5; exact h5
      rw [this, hi] at k3
      cases k3
    · have := hC.apart a (List.contains_iff_mem.1 hb.1) p.1 (List.contains_iff_mem.1 h4.1) (Ne.symm e) _ _ g h1 k1 rfl k2
      omega
  · exact ⟨g, rfl, upd_some h1 hk, h2, k5⟩
end
/- Package big: fractions: Mul, Quo, Add, Sub, Cmp. -/
section
open Go.RowKit

/-- How many words a number has. -/
def wl (n : Int) : Nat := (dig n.natAbs).length
theorem wl_mul (n m : Int) : wl (n * m) ≤ wl n + wl m := by
  unfold wl
  refine dig_len_le _ _ ?_
  rw [Int.natAbs_mul, Nat.pow_add]
  exact Nat.mul_lt_mul'' (dig_lt _) (dig_lt _)
theorem wl_add (n m : Int) : wl (n + m) ≤ max (wl n) (wl m) + 1 := by
  unfold wl
  refine dig_len_le _ _ ?_
  have h1 := dig_lt n.natAbs
  have h2 := dig_lt m.natAbs
  have h3 : 4294967296 ^ (dig n.natAbs).length ≤ 4294967296 ^ (max (dig n.natAbs).length (dig m.natAbs).length) := Nat.pow_le_pow_right (by decide) (Nat.le_max_left _ _)
  have h4 : 4294967296 ^ (dig m.natAbs).length ≤ 4294967296 ^ (max (dig n.natAbs).length (dig m.natAbs).length) := Nat.pow_le_pow_right (by decide) (Nat.le_max_right _ _)
  have h5 := Int.natAbs_add_le n m
  rw [Nat.pow_succ]
  generalize 4294967296 ^ (max (dig n.natAbs).length (dig m.natAbs).length) = M at *
  omega
theorem wl_neg (n : Int) : wl (-n) = wl n := by simp [wl]
theorem wl_sub (n m : Int) : wl (n - m) ≤ max (wl n) (wl m) + 1 := by
  have := wl_add n (-m)
  rw [wl_neg] at this
  rwa [Int.sub_eq_add_neg]
/-- A fraction that may be worked with. -/
def OkR (q : Rat) : Prop := wl q.num ≤ 1073741824 ∧ wl q.den ≤ 1073741824
theorem OkR.num {q : Rat} (h : OkR q) : Okn q.num := Nat.le_trans h.1 (by decide)
theorem OkR.den {q : Rat} (h : OkR q) : Okn q.den := Nat.le_trans h.2 (by decide)
theorem okn_mul {n m : Int} (h : wl n ≤ 1073741824) (k : wl m ≤ 1073741824) : Okn (n * m) := by
  have := wl_mul n m
  show wl _ ≤ _
  omega
theorem okn_add {n m a b : Int} (h : wl n ≤ 1073741824) (k : wl m ≤ 1073741824) (h' : wl a ≤ 1073741824) (k' : wl b ≤ 1073741824) : Okn (n * m + a * b) := by
  have h1 := wl_mul n m
  have h2 := wl_mul a b
  have h3 := wl_add (n * m) (a * b)
  show wl _ ≤ _
  omega
theorem okn_sub {n m a b : Int} (h : wl n ≤ 1073741824) (k : wl m ≤ 1073741824) (h' : wl a ≤ 1073741824) (k' : wl b ≤ 1073741824) : Okn (n * m - a * b) := by
  have h1 := wl_mul n m
  have h2 := wl_mul a b
  have h3 := wl_sub (n * m) (a * b)
  show wl _ ≤ _
  omega
theorem RatAt.num {w : World} {b o : Nat} {q : Rat} (h : RatAt w b o q) : IntAt w b o q.num := h.2.1

theorem den_ne (x : Rat) : (x.den : Int) ≠ 0 := by have := x.den_pos; omega
theorem divInt_mul (x y : Rat) : Rat.divInt (x.num * y.num) ((x.den : Int) * y.den) = x * y := by
  rw [← Rat.divInt_mul_divInt, Rat.num_divInt_den, Rat.num_divInt_den]

set_option maxHeartbeats 1600000 in
set_option maxRecDepth 100000 in
theorem rMul_any {w : World} {b o c p d q : Nat} {x y : Rat} (hz : Slot w b o 4) (hx : RatAt w c p x) (hy : RatAt w d q y) (kx : OkR x) (ky : OkR y) :
    Calls Tryz.prog 204 #[.pointer (some ⟨b, o, none⟩), .pointer (some ⟨c, p, none⟩), .pointer (some ⟨d, q, none⟩)] w fun e w' => e = .returned (.pointer (some ⟨b, o, none⟩)) ∧ RatAt w' b o (x * y) ∧ Touch w w' b o 4 := by
  have HX := Lib.hid hx
  have HY := Lib.hid hy
  have HZ := Lib.hid hz
  have KX := Lib.hid kx
  have KY := Lib.hid ky
  clear hx hy hz kx ky
  go_enter Tryz.func204, Tryz.ntmps204
  go_wp2
  refine wp_region_ghost 15 (GC w.heap.size w [1, 9, 11, 13]) (fun γ wq _ wr => GE w.heap.size [(1, 8), (9, 14)] γ wq wr) (fun i γ wq v => match i with
      | 0 => v = .pointer (some ⟨b, o, none⟩)
      | 1 => VA w.heap.size wq v
      | 2 => v = .pointer (some ⟨c, p, none⟩)
      | 3 => v = .pointer (some ⟨c, p, none⟩)
      | 4 => v = .pointer (some ⟨c, p, none⟩)
      | 5 => v = .pointer (some ⟨d, q, none⟩)
      | 6 => v = .pointer (some ⟨d, q, none⟩)
      | 7 => v = .pointer (some ⟨d, q, none⟩)
      | 8 => VM w.heap.size 1 (x.num * y.num) γ wq v
      | 9 => VA w.heap.size wq v
      | 10 => v = .pointer (some ⟨c, p, none⟩)
      | 11 => VD ((x).den : Int) wq v
      | 12 => v = .pointer (some ⟨d, q, none⟩)
      | 13 => VD ((y).den : Int) wq v
      | 14 => VM w.heap.size 9 ((x.den : Int) * y.den) γ wq v
      | _ => True) (by kernel_rfl) (by kernel_rfl) (by kernel_rfl) (GC.start _ (Nat.le_refl _)) ?_ ⟨?_, ?_, ?_, ?_, ?_, ?_, ?_, ?_, ?_, ?_, ?_, ?_, ?_, ?_, ?_, trivial⟩ ?_
  · intro i γ w1 k xq w2 v hC hC2 hE hk hi hV
    match i with
    | 0 => exact hV
    | 1 => exact VA.stable hV hE
    | 2 => exact hV
    | 3 => exact hV
    | 4 => exact hV
    | 5 => exact hV
    | 6 => exact hV
    | 7 => exact hV
    | 8 => exact VM.stable 8 k hV hC hE hk hi rfl
    | 9 => exact VA.stable hV hE
    | 10 => exact hV
    | 11 => exact VD.stable 11 hV hC hE hi rfl
    | 12 => exact hV
    | 13 => exact VD.stable 13 hV hC hE hi rfl
    | 14 => exact VM.stable 14 k hV hC hE hk hi rfl
    | _ + 15 => trivial
  · intro a' γ w' hag hC hk hd K hK
    have e0 : a'.tmps.getD 0 undef = .pointer (some ⟨b, o, none⟩) := hag 0 rfl
    go_step
    exact hK _ _ (hC.step 0 _ rfl (Below.refl _ _)) (GE.refl _ _ _ _) rfl
  · intro a' γ w' hag hC hk hd K hK
    have hb : Below w'.heap.size w' (w'.alloc (.cells #[.bool false, .slice none 0 0] 218)) := (Below.refl _ _).alloc (Nat.le_refl _) _
    have HK := Lib.hid (hK (.pointer (some ⟨w'.heap.size, 0, none⟩)) _ (hC.own 1 _ _ hb (IntAt.new w').lt (.inr (Nat.le_refl _))) (GE.below _ _ hb) ⟨_, rfl, hC.size, (IntAt.new w').slot⟩)
    clear hb hK hC
    go_step
    exact HK.out
  · intro a' γ w' hag hC hk hd K hK
    have e1 : a'.tmps.getD 1 undef = .pointer (some ⟨c, p, none⟩) := hag 1 rfl
    go_step
    exact hK _ _ (hC.step 2 _ rfl (Below.refl _ _)) (GE.refl _ _ _ _) rfl
  · intro a' γ w' hag hC hk hd K hK
    have e9 : a'.tmps.getD 9 undef = .pointer (some ⟨c, p, none⟩) := hd.1.2
    go_step
    exact hK _ _ (hC.step 3 _ rfl (Below.refl _ _)) (GE.refl _ _ _ _) rfl
  · intro a' γ w' hag hC hk hd K hK
    have e10 : a'.tmps.getD 10 undef = .pointer (some ⟨c, p, none⟩) := hd.1.2
    go_step
    exact hK _ _ (hC.step 4 _ rfl (Below.refl _ _)) (GE.refl _ _ _ _) rfl
  · intro a' γ w' hag hC hk hd K hK
    have e2 : a'.tmps.getD 2 undef = .pointer (some ⟨d, q, none⟩) := hag 2 rfl
    go_step
    exact hK _ _ (hC.step 5 _ rfl (Below.refl _ _)) (GE.refl _ _ _ _) rfl
  · intro a' γ w' hag hC hk hd K hK
    have e12 : a'.tmps.getD 12 undef = .pointer (some ⟨d, q, none⟩) := hd.1.2
    go_step
    exact hK _ _ (hC.step 6 _ rfl (Below.refl _ _)) (GE.refl _ _ _ _) rfl
  · intro a' γ w' hag hC hk hd K hK
    have e13 : a'.tmps.getD 13 undef = .pointer (some ⟨d, q, none⟩) := hd.1.2
    go_step
    exact hK _ _ (hC.step 7 _ rfl (Below.refl _ _)) (GE.refl _ _ _ _) rfl
  · intro a' γ w' hag hC hk hd K hK
    have q8 : VA w.heap.size w' (a'.tmps.getD 8 undef) := hd.1.2
    have gg8 : γ 1 = some (a'.tmps.getD 8 undef) := hd.1.1
    obtain ⟨g8, e8, hb8, hs8⟩ := q8
    rw [e8] at gg8
    have e8 : a'.tmps.getD 8 undef = .pointer (some ⟨g8, 0, none⟩) := e8
    have e11 : a'.tmps.getD 11 undef = .pointer (some ⟨c, p, none⟩) := hd.2.1.2
    have e14 : a'.tmps.getD 14 undef = .pointer (some ⟨d, q, none⟩) := hd.2.2.1.2
    have hx := Lib.hid (mul_any hs8 (HX.out.on hC.below).num (HY.out.on hC.below).num KX.out.num KY.out.num)
    go_step
    refine hx.out.mono ?_
    rintro e w2 ⟨rfl, h1, h2⟩
    exact hK _ _ (hC.step 8 _ rfl (h2.below hb8 hC.size)) (GE.write 1 8 rfl hs8 h2 gg8 hk hb8) ⟨_, rfl, upd_some gg8 hk, hb8, h1⟩
  · intro a' γ w' hag hC hk hd K hK
    have hb : Below w'.heap.size w' (w'.alloc (.cells #[.bool false, .slice none 0 0] 218)) := (Below.refl _ _).alloc (Nat.le_refl _) _
    have HK := Lib.hid (hK (.pointer (some ⟨w'.heap.size, 0, none⟩)) _ (hC.own 9 _ _ hb (IntAt.new w').lt (.inr (Nat.le_refl _))) (GE.below _ _ hb) ⟨_, rfl, hC.size, (IntAt.new w').slot⟩)
    clear hb hK hC
    go_step
    exact HK.out
  · intro a' γ w' hag hC hk hd K hK
    have e1 : a'.tmps.getD 1 undef = .pointer (some ⟨c, p, none⟩) := hag 1 rfl
    go_step
    exact hK _ _ (hC.step 10 _ rfl (Below.refl _ _)) (GE.refl _ _ _ _) rfl
  · intro a' γ w' hag hC hk hd K hK
    have e17 : a'.tmps.getD 17 undef = .pointer (some ⟨c, p, none⟩) := hd.1.2
    have hx := HX.out.on hC.below
    go_step
    refine (den_any hx).mono ?_
    rintro e w2 ⟨g, j, rfl, h1, h2, h3⟩
    exact hK _ _ (hC.own 11 _ _ h2 h1.lt (h3.imp (fun e => by rw [e]; exact HX.out.lt) id)) (GE.below _ _ h2) ⟨_, _, rfl, h1⟩
  · intro a' γ w' hag hC hk hd K hK
    have e2 : a'.tmps.getD 2 undef = .pointer (some ⟨d, q, none⟩) := hag 2 rfl
    go_step
    exact hK _ _ (hC.step 12 _ rfl (Below.refl _ _)) (GE.refl _ _ _ _) rfl
  · intro a' γ w' hag hC hk hd K hK
    have e19 : a'.tmps.getD 19 undef = .pointer (some ⟨d, q, none⟩) := hd.1.2
    have hx := HY.out.on hC.below
    go_step
    refine (den_any hx).mono ?_
    rintro e w2 ⟨g, j, rfl, h1, h2, h3⟩
    exact hK _ _ (hC.own 13 _ _ h2 h1.lt (h3.imp (fun e => by rw [e]; exact HY.out.lt) id)) (GE.below _ _ h2) ⟨_, _, rfl, h1⟩
  · intro a' γ w' hag hC hk hd K hK
    have q16 : VA w.heap.size w' (a'.tmps.getD 16 undef) := hd.1.2
    have gg16 : γ 9 = some (a'.tmps.getD 16 undef) := hd.1.1
    obtain ⟨g16, e16, hb16, hs16⟩ := q16
    rw [e16] at gg16
    have e16 : a'.tmps.getD 16 undef = .pointer (some ⟨g16, 0, none⟩) := e16
    have q18 : VD ((x).den : Int) w' (a'.tmps.getD 18 undef) := hd.2.1.2
    have gg18 : γ 11 = some (a'.tmps.getD 18 undef) := hd.2.1.1
    obtain ⟨g18, i18, e18, h18⟩ := q18
    rw [e18] at gg18
    have e18 : a'.tmps.getD 18 undef = .pointer (some ⟨g18, i18, none⟩) := e18
    have q20 : VD ((y).den : Int) w' (a'.tmps.getD 20 undef) := hd.2.2.1.2
    have gg20 : γ 13 = some (a'.tmps.getD 20 undef) := hd.2.2.1.1
    obtain ⟨g20, i20, e20, h20⟩ := q20
    rw [e20] at gg20
    have e20 : a'.tmps.getD 20 undef = .pointer (some ⟨g20, i20, none⟩) := e20
    have hx := Lib.hid (mul_any hs16 h18 h20 KX.out.den KY.out.den)
    go_step
    refine hx.out.mono ?_
    rintro e w2 ⟨rfl, h1, h2⟩
    exact hK _ _ (hC.step 14 _ rfl (h2.below hb16 hC.size)) (GE.write 9 14 rfl hs16 h2 gg16 hk hb16) ⟨_, rfl, upd_some gg16 hk, hb16, h1⟩
  · intro γ u w' hC hgh hall
    obtain ⟨u0, u1, u2, u3, u4, u5, u6, u7, u8, u9, u10, u11, u12, u13, u14, _⟩ := hall
    have u0 : u 0 = .pointer (some ⟨b, o, none⟩) := u0
    have u2 : u 2 = .pointer (some ⟨c, p, none⟩) := u2
    have u3 : u 3 = .pointer (some ⟨c, p, none⟩) := u3
    have u4 : u 4 = .pointer (some ⟨c, p, none⟩) := u4
    have u5 : u 5 = .pointer (some ⟨d, q, none⟩) := u5
    have u6 : u 6 = .pointer (some ⟨d, q, none⟩) := u6
    have u7 : u 7 = .pointer (some ⟨d, q, none⟩) := u7
    obtain ⟨g15, eu8, ga15, hb15, h15⟩ := u8
    have u8 : u 8 = .pointer (some ⟨g15, 0, none⟩) := eu8
    have u10 : u 10 = .pointer (some ⟨c, p, none⟩) := u10
    have u12 : u 12 = .pointer (some ⟨d, q, none⟩) := u12
    obtain ⟨g21, eu14, ga21, hb21, h21⟩ := u14
    have u14 : u 14 = .pointer (some ⟨g21, 0, none⟩) := eu14
    simp only [fillR, List.take_succ_cons, List.take_zero, Act.put, List.setIfInBounds_toArray, List.set_cons_succ, List.set_cons_zero, Nat.zero_add, Nat.reduceAdd, u0, u2, u3, u4, u5, u6, u7, u8, u10, u12, u14]
    clear u0 u2 u3 u4 u5 u6 u7 u8 u10 u12 u14
    have HC := Lib.hid hC
    have H15 := Lib.hid h15
    have H21 := Lib.hid h21
    clear hC h15 h21 ga15 ga21 hb15 hb21
    go_wp2_with fail
    refine (SetFrac_any (HZ.out.on HC.out.below) H15.out H21.out (Int.mul_ne_zero (den_ne x) (den_ne y)) (okn_mul KX.out.1 KY.out.1) (okn_mul KX.out.2 KY.out.2)).mono ?_
    rintro e w3 ⟨rfl, h1, h2⟩
    rw [divInt_mul] at h1
    have H1 := Lib.hid h1
    have HT := Lib.hid ((Touch.of_below HC.out.below b o 4).trans h2)
    clear h1 h2
    go_wp2
    go_ret
    exact ⟨rfl, H1.out, HT.out⟩
theorem divInt_quo (x y : Rat) : Rat.divInt (x.num * (y.den : Int)) ((x.den : Int) * y.num) = x / y := by
  rw [← Rat.divInt_mul_divInt, Rat.num_divInt_den, ← Rat.inv_def, Rat.div_def]

set_option maxHeartbeats 1600000 in
set_option maxRecDepth 100000 in
theorem rQuo_any {w : World} {b o c p d q : Nat} {x y : Rat} (hz : Slot w b o 4) (hx : RatAt w c p x) (hy : RatAt w d q y) (kx : OkR x) (ky : OkR y) (h0 : y ≠ 0) :
    Calls Tryz.prog 205 #[.pointer (some ⟨b, o, none⟩), .pointer (some ⟨c, p, none⟩), .pointer (some ⟨d, q, none⟩)] w fun e w' => e = .returned (.pointer (some ⟨b, o, none⟩)) ∧ RatAt w' b o (x / y) ∧ Touch w w' b o 4 := by
  have HX := Lib.hid hx
  have HY := Lib.hid hy
  have HZ := Lib.hid hz
  have KX := Lib.hid kx
  have KY := Lib.hid ky
  have HN0 : Hid (y.num ≠ 0) := fun h => h0 (Rat.num_eq_zero.1 h)
  clear hx hy hz kx ky h0
  go_enter Tryz.func205, Tryz.ntmps205
  go_wp2
  refine wp_region_ghost 15 (GC w.heap.size w [1, 6, 8, 10]) (fun γ wq _ wr => GE w.heap.size [(1, 7), (8, 14)] γ wq wr) (fun i γ wq v => match i with
      | 0 => v = .pointer (some ⟨b, o, none⟩)
      | 1 => VA w.heap.size wq v
      | 2 => v = .pointer (some ⟨c, p, none⟩)
      | 3 => v = .pointer (some ⟨c, p, none⟩)
      | 4 => v = .pointer (some ⟨c, p, none⟩)
      | 5 => v = .pointer (some ⟨d, q, none⟩)
      | 6 => VD ((y).den : Int) wq v
      | 7 => VM w.heap.size 1 (x.num * (y.den : Int)) γ wq v
      | 8 => VA w.heap.size wq v
      | 9 => v = .pointer (some ⟨c, p, none⟩)
      | 10 => VD ((x).den : Int) wq v
      | 11 => v = .pointer (some ⟨d, q, none⟩)
      | 12 => v = .pointer (some ⟨d, q, none⟩)
      | 13 => v = .pointer (some ⟨d, q, none⟩)
      | 14 => VM w.heap.size 8 ((x.den : Int) * y.num) γ wq v
      | _ => True) (by kernel_rfl) (by kernel_rfl) (by kernel_rfl) (GC.start _ (Nat.le_refl _)) ?_ ⟨?_, ?_, ?_, ?_, ?_, ?_, ?_, ?_, ?_, ?_, ?_, ?_, ?_, ?_, ?_, trivial⟩ ?_
  · intro i γ w1 k xq w2 v hC hC2 hE hk hi hV
    match i with
    | 0 => exact hV
    | 1 => exact VA.stable hV hE
    | 2 => exact hV
    | 3 => exact hV
    | 4 => exact hV
    | 5 => exact hV
    | 6 => exact VD.stable 6 hV hC hE hi rfl
    | 7 => exact VM.stable 7 k hV hC hE hk hi rfl
    | 8 => exact VA.stable hV hE
    | 9 => exact hV
    | 10 => exact VD.stable 10 hV hC hE hi rfl
    | 11 => exact hV
    | 12 => exact hV
    | 13 => exact hV
    | 14 => exact VM.stable 14 k hV hC hE hk hi rfl
    | _ + 15 => trivial
  · intro a' γ w' hag hC hk hd K hK
    have e0 : a'.tmps.getD 0 undef = .pointer (some ⟨b, o, none⟩) := hag 0 rfl
    go_step
    exact hK _ _ (hC.step 0 _ rfl (Below.refl _ _)) (GE.refl _ _ _ _) rfl
  · intro a' γ w' hag hC hk hd K hK
    have hb : Below w'.heap.size w' (w'.alloc (.cells #[.bool false, .slice none 0 0] 218)) := (Below.refl _ _).alloc (Nat.le_refl _) _
    have HK := Lib.hid (hK (.pointer (some ⟨w'.heap.size, 0, none⟩)) _ (hC.own 1 _ _ hb (IntAt.new w').lt (.inr (Nat.le_refl _))) (GE.below _ _ hb) ⟨_, rfl, hC.size, (IntAt.new w').slot⟩)
    clear hb hK hC
    go_step
    exact HK.out
  · intro a' γ w' hag hC hk hd K hK
    have e1 : a'.tmps.getD 1 undef = .pointer (some ⟨c, p, none⟩) := hag 1 rfl
    go_step
    exact hK _ _ (hC.step 2 _ rfl (Below.refl _ _)) (GE.refl _ _ _ _) rfl
  · intro a' γ w' hag hC hk hd K hK
    have e9 : a'.tmps.getD 9 undef = .pointer (some ⟨c, p, none⟩) := hd.1.2
    go_step
    exact hK _ _ (hC.step 3 _ rfl (Below.refl _ _)) (GE.refl _ _ _ _) rfl
  · intro a' γ w' hag hC hk hd K hK
    have e10 : a'.tmps.getD 10 undef = .pointer (some ⟨c, p, none⟩) := hd.1.2
    go_step
    exact hK _ _ (hC.step 4 _ rfl (Below.refl _ _)) (GE.refl _ _ _ _) rfl
  · intro a' γ w' hag hC hk hd K hK
    have e2 : a'.tmps.getD 2 undef = .pointer (some ⟨d, q, none⟩) := hag 2 rfl
    go_step
    exact hK _ _ (hC.step 5 _ rfl (Below.refl _ _)) (GE.refl _ _ _ _) rfl
  · intro a' γ w' hag hC hk hd K hK
    have e12 : a'.tmps.getD 12 undef = .pointer (some ⟨d, q, none⟩) := hd.1.2
    have hx := HY.out.on hC.below
    go_step
    refine (den_any hx).mono ?_
    rintro e w2 ⟨g, j, rfl, h1, h2, h3⟩
    exact hK _ _ (hC.own 6 _ _ h2 h1.lt (h3.imp (fun e => by rw [e]; exact HY.out.lt) id)) (GE.below _ _ h2) ⟨_, _, rfl, h1⟩
  · intro a' γ w' hag hC hk hd K hK
    have q8 : VA w.heap.size w' (a'.tmps.getD 8 undef) := hd.1.2
    have gg8 : γ 1 = some (a'.tmps.getD 8 undef) := hd.1.1
    obtain ⟨g8, e8, hb8, hs8⟩ := q8
    rw [e8] at gg8
    have e8 : a'.tmps.getD 8 undef = .pointer (some ⟨g8, 0, none⟩) := e8
    have e11 : a'.tmps.getD 11 undef = .pointer (some ⟨c, p, none⟩) := hd.2.1.2
    have q13 : VD ((y).den : Int) w' (a'.tmps.getD 13 undef) := hd.2.2.1.2
    have gg13 : γ 6 = some (a'.tmps.getD 13 undef) := hd.2.2.1.1
    obtain ⟨g13, i13, e13, h13⟩ := q13
    rw [e13] at gg13
    have e13 : a'.tmps.getD 13 undef = .pointer (some ⟨g13, i13, none⟩) := e13
    have hx := Lib.hid (mul_any hs8 (HX.out.on hC.below).num h13 KX.out.num KY.out.den)
    go_step
    refine hx.out.mono ?_
    rintro e w2 ⟨rfl, h1, h2⟩
    exact hK _ _ (hC.step 7 _ rfl (h2.below hb8 hC.size)) (GE.write 1 7 rfl hs8 h2 gg8 hk hb8) ⟨_, rfl, upd_some gg8 hk, hb8, h1⟩
  · intro a' γ w' hag hC hk hd K hK
    have hb : Below w'.heap.size w' (w'.alloc (.cells #[.bool false, .slice none 0 0] 218)) := (Below.refl _ _).alloc (Nat.le_refl _) _
    have HK := Lib.hid (hK (.pointer (some ⟨w'.heap.size, 0, none⟩)) _ (hC.own 8 _ _ hb (IntAt.new w').lt (.inr (Nat.le_refl _))) (GE.below _ _ hb) ⟨_, rfl, hC.size, (IntAt.new w').slot⟩)
    clear hb hK hC
    go_step
    exact HK.out
  · intro a' γ w' hag hC hk hd K hK
    have e1 : a'.tmps.getD 1 undef = .pointer (some ⟨c, p, none⟩) := hag 1 rfl
    go_step
    exact hK _ _ (hC.step 9 _ rfl (Below.refl _ _)) (GE.refl _ _ _ _) rfl
  · intro a' γ w' hag hC hk hd K hK
    have e16 : a'.tmps.getD 16 undef = .pointer (some ⟨c, p, none⟩) := hd.1.2
    have hx := HX.out.on hC.below
    go_step
    refine (den_any hx).mono ?_
    rintro e w2 ⟨g, j, rfl, h1, h2, h3⟩
    exact hK _ _ (hC.own 10 _ _ h2 h1.lt (h3.imp (fun e => by rw [e]; exact HX.out.lt) id)) (GE.below _ _ h2) ⟨_, _, rfl, h1⟩
  · intro a' γ w' hag hC hk hd K hK
    have e2 : a'.tmps.getD 2 undef = .pointer (some ⟨d, q, none⟩) := hag 2 rfl
    go_step
    exact hK _ _ (hC.step 11 _ rfl (Below.refl _ _)) (GE.refl _ _ _ _) rfl
  · intro a' γ w' hag hC hk hd K hK
    have e18 : a'.tmps.getD 18 undef = .pointer (some ⟨d, q, none⟩) := hd.1.2
    go_step
    exact hK _ _ (hC.step 12 _ rfl (Below.refl _ _)) (GE.refl _ _ _ _) rfl
  · intro a' γ w' hag hC hk hd K hK
    have e19 : a'.tmps.getD 19 undef = .pointer (some ⟨d, q, none⟩) := hd.1.2
    go_step
    exact hK _ _ (hC.step 13 _ rfl (Below.refl _ _)) (GE.refl _ _ _ _) rfl
  · intro a' γ w' hag hC hk hd K hK
    have q15 : VA w.heap.size w' (a'.tmps.getD 15 undef) := hd.1.2
    have gg15 : γ 8 = some (a'.tmps.getD 15 undef) := hd.1.1
    obtain ⟨g15, e15, hb15, hs15⟩ := q15
    rw [e15] at gg15
    have e15 : a'.tmps.getD 15 undef = .pointer (some ⟨g15, 0, none⟩) := e15
    have q17 : VD ((x).den : Int) w' (a'.tmps.getD 17 undef) := hd.2.1.2
    have gg17 : γ 10 = some (a'.tmps.getD 17 undef) := hd.2.1.1
    obtain ⟨g17, i17, e17, h17⟩ := q17
    rw [e17] at gg17
    have e17 : a'.tmps.getD 17 undef = .pointer (some ⟨g17, i17, none⟩) := e17
    have e20 : a'.tmps.getD 20 undef = .pointer (some ⟨d, q, none⟩) := hd.2.2.1.2
    have hx := Lib.hid (mul_any hs15 h17 (HY.out.on hC.below).num KX.out.den KY.out.num)
    go_step
    refine hx.out.mono ?_
    rintro e w2 ⟨rfl, h1, h2⟩
    exact hK _ _ (hC.step 14 _ rfl (h2.below hb15 hC.size)) (GE.write 8 14 rfl hs15 h2 gg15 hk hb15) ⟨_, rfl, upd_some gg15 hk, hb15, h1⟩
  · intro γ u w' hC hgh hall
    obtain ⟨u0, u1, u2, u3, u4, u5, u6, u7, u8, u9, u10, u11, u12, u13, u14, _⟩ := hall
    have u0 : u 0 = .pointer (some ⟨b, o, none⟩) := u0
    have u2 : u 2 = .pointer (some ⟨c, p, none⟩) := u2
    have u3 : u 3 = .pointer (some ⟨c, p, none⟩) := u3
    have u4 : u 4 = .pointer (some ⟨c, p, none⟩) := u4
    have u5 : u 5 = .pointer (some ⟨d, q, none⟩) := u5
    obtain ⟨g14, eu7, ga14, hb14, h14⟩ := u7
    have u7 : u 7 = .pointer (some ⟨g14, 0, none⟩) := eu7
    have u9 : u 9 = .pointer (some ⟨c, p, none⟩) := u9
    have u11 : u 11 = .pointer (some ⟨d, q, none⟩) := u11
    have u12 : u 12 = .pointer (some ⟨d, q, none⟩) := u12
    have u13 : u 13 = .pointer (some ⟨d, q, none⟩) := u13
    obtain ⟨g21, eu14, ga21, hb21, h21⟩ := u14
    have u14 : u 14 = .pointer (some ⟨g21, 0, none⟩) := eu14
    simp only [fillR, List.take_succ_cons, List.take_zero, Act.put, List.setIfInBounds_toArray, List.set_cons_succ, List.set_cons_zero, Nat.zero_add, Nat.reduceAdd, u0, u2, u3, u4, u5, u7, u9, u11, u12, u13, u14]
    clear u0 u2 u3 u4 u5 u7 u9 u11 u12 u13 u14
    have HC := Lib.hid hC
    have H14 := Lib.hid h14
    have H21 := Lib.hid h21
    clear hC h14 h21 ga14 ga21 hb14 hb21
    go_wp2_with fail
    refine (SetFrac_any (HZ.out.on HC.out.below) H14.out H21.out (Int.mul_ne_zero (den_ne x) HN0.out) (okn_mul KX.out.1 KY.out.2) (okn_mul KX.out.2 KY.out.1)).mono ?_
    rintro e w3 ⟨rfl, h1, h2⟩
    rw [divInt_quo] at h1
    have H1 := Lib.hid h1
    have HT := Lib.hid ((Touch.of_below HC.out.below b o 4).trans h2)
    clear h1 h2
    go_wp2
    go_ret
    exact ⟨rfl, H1.out, HT.out⟩
theorem divInt_Add (x y : Rat) : Rat.divInt (x.num * (y.den : Int) + y.num * (x.den : Int)) ((x.den : Int) * (y.den : Int)) = x + y := by
  rw [Rat.add_def', ← Int.natCast_mul]; rfl

set_option maxHeartbeats 1600000 in
set_option maxRecDepth 100000 in
theorem rAdd_any {w : World} {b o c p d q : Nat} {x y : Rat} (hz : Slot w b o 4) (hx : RatAt w c p x) (hy : RatAt w d q y) (kx : OkR x) (ky : OkR y) :
    Calls Tryz.prog 229 #[.pointer (some ⟨b, o, none⟩), .pointer (some ⟨c, p, none⟩), .pointer (some ⟨d, q, none⟩)] w fun e w' => e = .returned (.pointer (some ⟨b, o, none⟩)) ∧ RatAt w' b o (x + y) ∧ Touch w w' b o 4 := by
  have HX := Lib.hid hx
  have HY := Lib.hid hy
  have HZ := Lib.hid hz
  have KX := Lib.hid kx
  have KY := Lib.hid ky
  clear hx hy hz kx ky
  go_enter Tryz.func229, Tryz.ntmps229
  go_wp2
  refine wp_region_ghost 6 (GC w.heap.size w [0, 5]) (fun γ wq _ wr => GE w.heap.size [] γ wq wr) (fun i γ wq v => match i with
      | 0 => VA w.heap.size wq v
      | 1 => v = .pointer (some ⟨c, p, none⟩)
      | 2 => v = .pointer (some ⟨c, p, none⟩)
      | 3 => v = .pointer (some ⟨c, p, none⟩)
      | 4 => v = .pointer (some ⟨d, q, none⟩)
      | 5 => VD ((y).den : Int) wq v
      | _ => True) (by kernel_rfl) (by kernel_rfl) (by kernel_rfl) (GC.start _ (Nat.le_refl _)) ?_ ⟨?_, ?_, ?_, ?_, ?_, ?_, trivial⟩ ?_
  · intro i γ w1 k xq w2 v hC hC2 hE hk hi hV
    match i with
    | 0 => exact VA.stable hV hE
    | 1 => exact hV
    | 2 => exact hV
    | 3 => exact hV
    | 4 => exact hV
    | 5 => exact VD.stable 5 hV hC hE hi rfl
    | _ + 6 => trivial
  · intro a' γ w' hag hC hk hd K hK
    have hb : Below w'.heap.size w' (w'.alloc (.cells #[.bool false, .slice none 0 0] 218)) := (Below.refl _ _).alloc (Nat.le_refl _) _
    have HK := Lib.hid (hK (.pointer (some ⟨w'.heap.size, 0, none⟩)) _ (hC.own 0 _ _ hb (IntAt.new w').lt (.inr (Nat.le_refl _))) (GE.below _ _ hb) ⟨_, rfl, hC.size, (IntAt.new w').slot⟩)
    clear hb hK hC
    go_step
    exact HK.out
  · intro a' γ w' hag hC hk hd K hK
    have e1 : a'.tmps.getD 1 undef = .pointer (some ⟨c, p, none⟩) := hag 1 rfl
    go_step
    exact hK _ _ (hC.step 1 _ rfl (Below.refl _ _)) (GE.refl _ _ _ _) rfl
  · intro a' γ w' hag hC hk hd K hK
    have e9 : a'.tmps.getD 9 undef = .pointer (some ⟨c, p, none⟩) := hd.1.2
    go_step
    exact hK _ _ (hC.step 2 _ rfl (Below.refl _ _)) (GE.refl _ _ _ _) rfl
  · intro a' γ w' hag hC hk hd K hK
    have e10 : a'.tmps.getD 10 undef = .pointer (some ⟨c, p, none⟩) := hd.1.2
    go_step
    exact hK _ _ (hC.step 3 _ rfl (Below.refl _ _)) (GE.refl _ _ _ _) rfl
  · intro a' γ w' hag hC hk hd K hK
    have e2 : a'.tmps.getD 2 undef = .pointer (some ⟨d, q, none⟩) := hag 2 rfl
    go_step
    exact hK _ _ (hC.step 4 _ rfl (Below.refl _ _)) (GE.refl _ _ _ _) rfl
  · intro a' γ w' hag hC hk hd K hK
    have e12 : a'.tmps.getD 12 undef = .pointer (some ⟨d, q, none⟩) := hd.1.2
    have hx := HY.out.on hC.below
    go_step
    refine (den_any hx).mono ?_
    rintro e w2 ⟨g, j, rfl, h1, h2, h3⟩
    exact hK _ _ (hC.own 5 _ _ h2 h1.lt (h3.imp (fun e => by rw [e]; exact HY.out.lt) id)) (GE.below _ _ h2) ⟨_, _, rfl, h1⟩
  · intro γ u w' hC hgh hall
    obtain ⟨u0, u1, u2, u3, u4, u5, _⟩ := hall
    obtain ⟨g8, eu0, hb8, hs8⟩ := u0
    have u0 : u 0 = .pointer (some ⟨g8, 0, none⟩) := eu0
    have u1 : u 1 = .pointer (some ⟨c, p, none⟩) := u1
    have u2 : u 2 = .pointer (some ⟨c, p, none⟩) := u2
    have u3 : u 3 = .pointer (some ⟨c, p, none⟩) := u3
    have u4 : u 4 = .pointer (some ⟨d, q, none⟩) := u4
    obtain ⟨g13, i13, eu5, h13⟩ := u5
    have u5 : u 5 = .pointer (some ⟨g13, i13, none⟩) := eu5
    simp only [fillR, List.take_succ_cons, List.take_zero, Act.put, List.setIfInBounds_toArray, List.set_cons_succ, List.set_cons_zero, Nat.zero_add, Nat.reduceAdd, u0, u1, u2, u3, u4, u5]
    clear u0 u1 u2 u3 u4 u5
    have HC := Lib.hid hC.below
    have HB8 := Lib.hid hb8
    have HS8 := Lib.hid hs8
    have H13 := Lib.hid h13
    have hx1 := HX.out.on HC.out
    clear hC hb8 hs8 h13
    go_wp2_with fail
    refine (mul_any HS8.out hx1.num H13.out KX.out.num KY.out.den).mono ?_
    rintro e w1 ⟨rfl, h1, h2⟩
    have HB1 : Hid (Below w.heap.size w w1) := HC.out.trans (h2.below HB8.out HC.out.size)
    have H1 := Lib.hid h1
    clear h1 h2 hx1 H13 HS8 HC
    have HX1 := Lib.hid (HX.out.on HB1.out)
    have HY1 := Lib.hid (HY.out.on HB1.out)
    go_wp2
    refine wp_region_ghost 9 (GC w1.heap.size w1 [2, 7]) (fun γ wq _ wr => GE w1.heap.size [(2, 8)] γ wq wr) (fun i γ wq v => match i with
        | 0 => v = .pointer (some ⟨g8, 0, none⟩)
        | 1 => v = .pointer (some ⟨g8, 0, none⟩)
        | 2 => VA w1.heap.size wq v
        | 3 => v = .pointer (some ⟨d, q, none⟩)
        | 4 => v = .pointer (some ⟨d, q, none⟩)
        | 5 => v = .pointer (some ⟨d, q, none⟩)
        | 6 => v = .pointer (some ⟨c, p, none⟩)
        | 7 => VD ((x).den : Int) wq v
        | 8 => VM w1.heap.size 2 (y.num * (x.den : Int)) γ wq v
        | _ => True) (by kernel_rfl) (by kernel_rfl) (by kernel_rfl) (GC.start _ (Nat.le_refl _)) ?_ ⟨?_, ?_, ?_, ?_, ?_, ?_, ?_, ?_, ?_, trivial⟩ ?_
    · intro i γ w1 k xq w2 v hC hC2 hE hk hi hV
      match i with
      | 0 => exact hV
      | 1 => exact hV
      | 2 => exact VA.stable hV hE
      | 3 => exact hV
      | 4 => exact hV
      | 5 => exact hV
      | 6 => exact hV
      | 7 => exact VD.stable 7 hV hC hE hi rfl
      | 8 => exact VM.stable 8 k hV hC hE hk hi rfl
      | _ + 9 => trivial
    · intro a' γ w' hag hC hk hd K hK
      have e7 : a'.tmps.getD 7 undef = .pointer (some ⟨g8, 0, none⟩) := hag 7 rfl
      go_step
      exact hK _ _ (hC.step 0 _ rfl (Below.refl _ _)) (GE.refl _ _ _ _) rfl
    · intro a' γ w' hag hC hk hd K hK
      have e7 : a'.tmps.getD 7 undef = .pointer (some ⟨g8, 0, none⟩) := hag 7 rfl
      go_step
      exact hK _ _ (hC.step 1 _ rfl (Below.refl _ _)) (GE.refl _ _ _ _) rfl
    · intro a' γ w' hag hC hk hd K hK
      have hb : Below w'.heap.size w' (w'.alloc (.cells #[.bool false, .slice none 0 0] 218)) := (Below.refl _ _).alloc (Nat.le_refl _) _
      have HK := Lib.hid (hK (.pointer (some ⟨w'.heap.size, 0, none⟩)) _ (hC.own 2 _ _ hb (IntAt.new w').lt (.inr (Nat.le_refl _))) (GE.below _ _ hb) ⟨_, rfl, hC.size, (IntAt.new w').slot⟩)
      clear hb hK hC
      go_step
      exact HK.out
    · intro a' γ w' hag hC hk hd K hK
      have e2 : a'.tmps.getD 2 undef = .pointer (some ⟨d, q, none⟩) := hag 2 rfl
      go_step
      exact hK _ _ (hC.step 3 _ rfl (Below.refl _ _)) (GE.refl _ _ _ _) rfl
    · intro a' γ w' hag hC hk hd K hK
      have e18 : a'.tmps.getD 18 undef = .pointer (some ⟨d, q, none⟩) := hd.1.2
      go_step
      exact hK _ _ (hC.step 4 _ rfl (Below.refl _ _)) (GE.refl _ _ _ _) rfl
    · intro a' γ w' hag hC hk hd K hK
      have e19 : a'.tmps.getD 19 undef = .pointer (some ⟨d, q, none⟩) := hd.1.2
      go_step
      exact hK _ _ (hC.step 5 _ rfl (Below.refl _ _)) (GE.refl _ _ _ _) rfl
    · intro a' γ w' hag hC hk hd K hK
      have e1 : a'.tmps.getD 1 undef = .pointer (some ⟨c, p, none⟩) := hag 1 rfl
      go_step
      exact hK _ _ (hC.step 6 _ rfl (Below.refl _ _)) (GE.refl _ _ _ _) rfl
    · intro a' γ w' hag hC hk hd K hK
      have e21 : a'.tmps.getD 21 undef = .pointer (some ⟨c, p, none⟩) := hd.1.2
      have hx := HX1.out.on hC.below
      go_step
      refine (den_any hx).mono ?_
      rintro e w2 ⟨g, j, rfl, h1, h2, h3⟩
      exact hK _ _ (hC.own 7 _ _ h2 h1.lt (h3.imp (fun e => by rw [e]; exact HX1.out.lt) id)) (GE.below _ _ h2) ⟨_, _, rfl, h1⟩
    · intro a' γ w' hag hC hk hd K hK
      have q17 : VA w1.heap.size w' (a'.tmps.getD 17 undef) := hd.1.2
      have gg17 : γ 2 = some (a'.tmps.getD 17 undef) := hd.1.1
      obtain ⟨g17, e17, hb17, hs17⟩ := q17
      rw [e17] at gg17
      have e17 : a'.tmps.getD 17 undef = .pointer (some ⟨g17, 0, none⟩) := e17
      have e20 : a'.tmps.getD 20 undef = .pointer (some ⟨d, q, none⟩) := hd.2.1.2
      have q22 : VD ((x).den : Int) w' (a'.tmps.getD 22 undef) := hd.2.2.1.2
      have gg22 : γ 7 = some (a'.tmps.getD 22 undef) := hd.2.2.1.1
      obtain ⟨g22, i22, e22, h22⟩ := q22
      rw [e22] at gg22
      have e22 : a'.tmps.getD 22 undef = .pointer (some ⟨g22, i22, none⟩) := e22
      have hx := Lib.hid (mul_any hs17 (HY1.out.on hC.below).num h22 KY.out.num KX.out.den)
      go_step
      refine hx.out.mono ?_
      rintro e w2 ⟨rfl, h1, h2⟩
      exact hK _ _ (hC.step 8 _ rfl (h2.below hb17 hC.size)) (GE.write 2 8 rfl hs17 h2 gg17 hk hb17) ⟨_, rfl, upd_some gg17 hk, hb17, h1⟩
    · intro γ u w' hC hgh hall
      obtain ⟨u0, u1, u2, u3, u4, u5, u6, u7, u8, _⟩ := hall
      have u0 : u 0 = .pointer (some ⟨g8, 0, none⟩) := u0
      have u1 : u 1 = .pointer (some ⟨g8, 0, none⟩) := u1
      have u3 : u 3 = .pointer (some ⟨d, q, none⟩) := u3
      have u4 : u 4 = .pointer (some ⟨d, q, none⟩) := u4
      have u5 : u 5 = .pointer (some ⟨d, q, none⟩) := u5
      have u6 : u 6 = .pointer (some ⟨c, p, none⟩) := u6
      obtain ⟨g23, eu8, ga23, hb23, h23⟩ := u8
      have u8 : u 8 = .pointer (some ⟨g23, 0, none⟩) := eu8
      simp only [fillR, List.take_succ_cons, List.take_zero, Act.put, List.setIfInBounds_toArray, List.set_cons_succ, List.set_cons_zero, Nat.zero_add, Nat.reduceAdd, u0, u1, u3, u4, u5, u6, u8]
      clear u0 u1 u3 u4 u5 u6 u8
      have HC2 := Lib.hid hC.below
      have H23 := Lib.hid h23
      have h1' := H1.out.on HC2.out
      clear hC h23 ga23 hb23
      go_wp2_with fail
      refine (Add_any h1'.slot h1' H23.out (okn_mul KX.out.1 KY.out.2) (okn_mul KY.out.1 KX.out.2)).mono ?_
      rintro e w3 ⟨rfl, h2, h3⟩
      have HB3 : Hid (Below w.heap.size w w3) := (HB1.out.trans (HC2.out.mono HB1.out.size)).trans (h3.below HB8.out (Nat.le_trans HB1.out.size HC2.out.size))
      have HN := Lib.hid h2
      clear h1' h2 h3 H23 HC2 HX1 HY1 HB1 H1
      have ha : Below w3.heap.size w3 (w3.alloc (.cells #[.bool false, .slice none 0 0] 218)) := (Below.refl _ _).alloc (Nat.le_refl _) _
      have hx3 := (HX.out.on HB3.out).on ha
      go_wp2_with fail
      refine (den_any hx3).mono ?_
      rintro e w4 ⟨gx, ix, rfl, h1, h2, h3⟩
      have hb4 := ha.trans (h2.mono ha.size)
      have HB4 := Lib.hid hb4
      have HDX := Lib.hid h1
      have HNX : Hid (gx ≠ w3.heap.size) := by
        have h4 := ha.size
        have h5 := HX.out.lt
        have h6 := HB3.out.size
        have h7 : (w3.alloc (.cells #[.bool false, .slice none 0 0] 218)).heap.size = w3.heap.size + 1 := by simp [World.alloc_eq]
        unfold Hid
        omega
      have HS : Hid (Slot w4 w3.heap.size 0 2) := (IntAt.new w3).slot.on h2
      clear h1 h2 h3 hx3 ha hb4
      have hy4 := (HY.out.on HB3.out).on HB4.out
      go_wp2_with fail
      refine (den_any hy4).mono ?_
      rintro e w5 ⟨gy, iy, rfl, h1, h2, h3⟩
      have hs5 := HS.out.on h2
      have hd5 := HDX.out.on h2
      have HB5 : Hid (Below w3.heap.size w3 w5) := HB4.out.trans (h2.mono HB4.out.size)
      have HDY := Lib.hid h1
      clear h1 h2 h3 hy4
      go_wp2_with fail
      refine (mul_any hs5 hd5 HDY.out KX.out.den KY.out.den).mono ?_
      rintro e w6 ⟨rfl, h1, h2⟩
      have HB6 : Hid (Below w3.heap.size w3 w6) := HB5.out.trans (h2.below (Nat.le_refl _) HB5.out.size)
      have HD := Lib.hid h1
      clear h1 h2 hs5 hd5 HDX HDY HS HB4 HB5 HNX
      have hz6 := (HZ.out.on HB3.out).on HB6.out
      have hn6 := HN.out.on HB6.out
      go_wp2_with fail
      refine (SetFrac_any hz6 hn6 HD.out (Int.mul_ne_zero (den_ne x) (den_ne y)) (okn_add KX.out.1 KY.out.2 KY.out.1 KX.out.2) (okn_mul KX.out.2 KY.out.2)).mono ?_
      rintro e w7 ⟨rfl, h1, h2⟩
      rw [divInt_Add] at h1
      have H1 := Lib.hid h1
      have HT := Lib.hid ((Touch.of_below (HB3.out.trans (HB6.out.mono HB3.out.size)) b o 4).trans h2)
      clear h1 h2 hz6 hn6
      go_wp2
      go_ret
      exact ⟨rfl, H1.out, HT.out⟩

theorem divInt_Sub (x y : Rat) : Rat.divInt (x.num * (y.den : Int) - y.num * (x.den : Int)) ((x.den : Int) * (y.den : Int)) = x - y := by
  rw [Rat.sub_def', ← Int.natCast_mul]; rfl

set_option maxHeartbeats 1600000 in
set_option maxRecDepth 100000 in
theorem rSub_any {w : World} {b o c p d q : Nat} {x y : Rat} (hz : Slot w b o 4) (hx : RatAt w c p x) (hy : RatAt w d q y) (kx : OkR x) (ky : OkR y) :
    Calls Tryz.prog 201 #[.pointer (some ⟨b, o, none⟩), .pointer (some ⟨c, p, none⟩), .pointer (some ⟨d, q, none⟩)] w fun e w' => e = .returned (.pointer (some ⟨b, o, none⟩)) ∧ RatAt w' b o (x - y) ∧ Touch w w' b o 4 := by
  have HX := Lib.hid hx
  have HY := Lib.hid hy
  have HZ := Lib.hid hz
  have KX := Lib.hid kx
  have KY := Lib.hid ky
  clear hx hy hz kx ky
  go_enter Tryz.func201, Tryz.ntmps201
  go_wp2
  refine wp_region_ghost 6 (GC w.heap.size w [0, 5]) (fun γ wq _ wr => GE w.heap.size [] γ wq wr) (fun i γ wq v => match i with
      | 0 => VA w.heap.size wq v
      | 1 => v = .pointer (some ⟨c, p, none⟩)
      | 2 => v = .pointer (some ⟨c, p, none⟩)
      | 3 => v = .pointer (some ⟨c, p, none⟩)
      | 4 => v = .pointer (some ⟨d, q, none⟩)
      | 5 => VD ((y).den : Int) wq v
      | _ => True) (by kernel_rfl) (by kernel_rfl) (by kernel_rfl) (GC.start _ (Nat.le_refl _)) ?_ ⟨?_, ?_, ?_, ?_, ?_, ?_, trivial⟩ ?_
  · intro i γ w1 k xq w2 v hC hC2 hE hk hi hV
    match i with
    | 0 => exact VA.stable hV hE
    | 1 => exact hV
    | 2 => exact hV
    | 3 => exact hV
    | 4 => exact hV
    | 5 => exact VD.stable 5 hV hC hE hi rfl
    | _ + 6 => trivial
  · intro a' γ w' hag hC hk hd K hK
    have hb : Below w'.heap.size w' (w'.alloc (.cells #[.bool false, .slice none 0 0] 218)) := (Below.refl _ _).alloc (Nat.le_refl _) _
    have HK := Lib.hid (hK (.pointer (some ⟨w'.heap.size, 0, none⟩)) _ (hC.own 0 _ _ hb (IntAt.new w').lt (.inr (Nat.le_refl _))) (GE.below _ _ hb) ⟨_, rfl, hC.size, (IntAt.new w').slot⟩)
    clear hb hK hC
    go_step
    exact HK.out
  · intro a' γ w' hag hC hk hd K hK
    have e1 : a'.tmps.getD 1 undef = .pointer (some ⟨c, p, none⟩) := hag 1 rfl
    go_step
    exact hK _ _ (hC.step 1 _ rfl (Below.refl _ _)) (GE.refl _ _ _ _) rfl
  · intro a' γ w' hag hC hk hd K hK
    have e9 : a'.tmps.getD 9 undef = .pointer (some ⟨c, p, none⟩) := hd.1.2
    go_step
    exact hK _ _ (hC.step 2 _ rfl (Below.refl _ _)) (GE.refl _ _ _ _) rfl
  · intro a' γ w' hag hC hk hd K hK
    have e10 : a'.tmps.getD 10 undef = .pointer (some ⟨c, p, none⟩) := hd.1.2
    go_step
    exact hK _ _ (hC.step 3 _ rfl (Below.refl _ _)) (GE.refl _ _ _ _) rfl
  · intro a' γ w' hag hC hk hd K hK
    have e2 : a'.tmps.getD 2 undef = .pointer (some ⟨d, q, none⟩) := hag 2 rfl
    go_step
    exact hK _ _ (hC.step 4 _ rfl (Below.refl _ _)) (GE.refl _ _ _ _) rfl
  · intro a' γ w' hag hC hk hd K hK
    have e12 : a'.tmps.getD 12 undef = .pointer (some ⟨d, q, none⟩) := hd.1.2
    have hx := HY.out.on hC.below
    go_step
    refine (den_any hx).mono ?_
    rintro e w2 ⟨g, j, rfl, h1, h2, h3⟩
    exact hK _ _ (hC.own 5 _ _ h2 h1.lt (h3.imp (fun e => by rw [e]; exact HY.out.lt) id)) (GE.below _ _ h2) ⟨_, _, rfl, h1⟩
  · intro γ u w' hC hgh hall
    obtain ⟨u0, u1, u2, u3, u4, u5, _⟩ := hall
    obtain ⟨g8, eu0, hb8, hs8⟩ := u0
    have u0 : u 0 = .pointer (some ⟨g8, 0, none⟩) := eu0
    have u1 : u 1 = .pointer (some ⟨c, p, none⟩) := u1
    have u2 : u 2 = .pointer (some ⟨c, p, none⟩) := u2
    have u3 : u 3 = .pointer (some ⟨c, p, none⟩) := u3
    have u4 : u 4 = .pointer (some ⟨d, q, none⟩) := u4
    obtain ⟨g13, i13, eu5, h13⟩ := u5
    have u5 : u 5 = .pointer (some ⟨g13, i13, none⟩) := eu5
    simp only [fillR, List.take_succ_cons, List.take_zero, Act.put, List.setIfInBounds_toArray, List.set_cons_succ, List.set_cons_zero, Nat.zero_add, Nat.reduceAdd, u0, u1, u2, u3, u4, u5]
    clear u0 u1 u2 u3 u4 u5
    have HC := Lib.hid hC.below
    have HB8 := Lib.hid hb8
    have HS8 := Lib.hid hs8
    have H13 := Lib.hid h13
    have hx1 := HX.out.on HC.out
    clear hC hb8 hs8 h13
    go_wp2_with fail
    refine (mul_any HS8.out hx1.num H13.out KX.out.num KY.out.den).mono ?_
    rintro e w1 ⟨rfl, h1, h2⟩
    have HB1 : Hid (Below w.heap.size w w1) := HC.out.trans (h2.below HB8.out HC.out.size)
    have H1 := Lib.hid h1
    clear h1 h2 hx1 H13 HS8 HC
    have HX1 := Lib.hid (HX.out.on HB1.out)
    have HY1 := Lib.hid (HY.out.on HB1.out)
    go_wp2
    refine wp_region_ghost 9 (GC w1.heap.size w1 [2, 7]) (fun γ wq _ wr => GE w1.heap.size [(2, 8)] γ wq wr) (fun i γ wq v => match i with
        | 0 => v = .pointer (some ⟨g8, 0, none⟩)
        | 1 => v = .pointer (some ⟨g8, 0, none⟩)
        | 2 => VA w1.heap.size wq v
        | 3 => v = .pointer (some ⟨d, q, none⟩)
        | 4 => v = .pointer (some ⟨d, q, none⟩)
        | 5 => v = .pointer (some ⟨d, q, none⟩)
        | 6 => v = .pointer (some ⟨c, p, none⟩)
        | 7 => VD ((x).den : Int) wq v
        | 8 => VM w1.heap.size 2 (y.num * (x.den : Int)) γ wq v
        | _ => True) (by kernel_rfl) (by kernel_rfl) (by kernel_rfl) (GC.start _ (Nat.le_refl _)) ?_ ⟨?_, ?_, ?_, ?_, ?_, ?_, ?_, ?_, ?_, trivial⟩ ?_
    · intro i γ w1 k xq w2 v hC hC2 hE hk hi hV
      match i with
      | 0 => exact hV
      | 1 => exact hV
      | 2 => exact VA.stable hV hE
      | 3 => exact hV
      | 4 => exact hV
      | 5 => exact hV
      | 6 => exact hV
      | 7 => exact VD.stable 7 hV hC hE hi rfl
      | 8 => exact VM.stable 8 k hV hC hE hk hi rfl
      | _ + 9 => trivial
    · intro a' γ w' hag hC hk hd K hK
      have e7 : a'.tmps.getD 7 undef = .pointer (some ⟨g8, 0, none⟩) := hag 7 rfl
      go_step
      exact hK _ _ (hC.step 0 _ rfl (Below.refl _ _)) (GE.refl _ _ _ _) rfl
    · intro a' γ w' hag hC hk hd K hK
      have e7 : a'.tmps.getD 7 undef = .pointer (some ⟨g8, 0, none⟩) := hag 7 rfl
      go_step
      exact hK _ _ (hC.step 1 _ rfl (Below.refl _ _)) (GE.refl _ _ _ _) rfl
    · intro a' γ w' hag hC hk hd K hK
      have hb : Below w'.heap.size w' (w'.alloc (.cells #[.bool false, .slice none 0 0] 218)) := (Below.refl _ _).alloc (Nat.le_refl _) _
      have HK := Lib.hid (hK (.pointer (some ⟨w'.heap.size, 0, none⟩)) _ (hC.own 2 _ _ hb (IntAt.new w').lt (.inr (Nat.le_refl _))) (GE.below _ _ hb) ⟨_, rfl, hC.size, (IntAt.new w').slot⟩)
      clear hb hK hC
      go_step
      exact HK.out
    · intro a' γ w' hag hC hk hd K hK
      have e2 : a'.tmps.getD 2 undef = .pointer (some ⟨d, q, none⟩) := hag 2 rfl
      go_step
      exact hK _ _ (hC.step 3 _ rfl (Below.refl _ _)) (GE.refl _ _ _ _) rfl
    · intro a' γ w' hag hC hk hd K hK
      have e18 : a'.tmps.getD 18 undef = .pointer (some ⟨d, q, none⟩) := hd.1.2
      go_step
      exact hK _ _ (hC.step 4 _ rfl (Below.refl _ _)) (GE.refl _ _ _ _) rfl
    · intro a' γ w' hag hC hk hd K hK
      have e19 : a'.tmps.getD 19 undef = .pointer (some ⟨d, q, none⟩) := hd.1.2
      go_step
      exact hK _ _ (hC.step 5 _ rfl (Below.refl _ _)) (GE.refl _ _ _ _) rfl
    · intro a' γ w' hag hC hk hd K hK
      have e1 : a'.tmps.getD 1 undef = .pointer (some ⟨c, p, none⟩) := hag 1 rfl
      go_step
      exact hK _ _ (hC.step 6 _ rfl (Below.refl _ _)) (GE.refl _ _ _ _) rfl
    · intro a' γ w' hag hC hk hd K hK
      have e21 : a'.tmps.getD 21 undef = .pointer (some ⟨c, p, none⟩) := hd.1.2
      have hx := HX1.out.on hC.below
      go_step
      refine (den_any hx).mono ?_
      rintro e w2 ⟨g, j, rfl, h1, h2, h3⟩
      exact hK _ _ (hC.own 7 _ _ h2 h1.lt (h3.imp (fun e => by rw [e]; exact HX1.out.lt) id)) (GE.below _ _ h2) ⟨_, _, rfl, h1⟩
    · intro a' γ w' hag hC hk hd K hK
      have q17 : VA w1.heap.size w' (a'.tmps.getD 17 undef) := hd.1.2
      have gg17 : γ 2 = some (a'.tmps.getD 17 undef) := hd.1.1
      obtain ⟨g17, e17, hb17, hs17⟩ := q17
      rw [e17] at gg17
      have e17 : a'.tmps.getD 17 undef = .pointer (some ⟨g17, 0, none⟩) := e17
      have e20 : a'.tmps.getD 20 undef = .pointer (some ⟨d, q, none⟩) := hd.2.1.2
      have q22 : VD ((x).den : Int) w' (a'.tmps.getD 22 undef) := hd.2.2.1.2
      have gg22 : γ 7 = some (a'.tmps.getD 22 undef) := hd.2.2.1.1
      obtain ⟨g22, i22, e22, h22⟩ := q22
      rw [e22] at gg22
      have e22 : a'.tmps.getD 22 undef = .pointer (some ⟨g22, i22, none⟩) := e22
      have hx := Lib.hid (mul_any hs17 (HY1.out.on hC.below).num h22 KY.out.num KX.out.den)
      go_step
      refine hx.out.mono ?_
      rintro e w2 ⟨rfl, h1, h2⟩
      exact hK _ _ (hC.step 8 _ rfl (h2.below hb17 hC.size)) (GE.write 2 8 rfl hs17 h2 gg17 hk hb17) ⟨_, rfl, upd_some gg17 hk, hb17, h1⟩
    · intro γ u w' hC hgh hall
      obtain ⟨u0, u1, u2, u3, u4, u5, u6, u7, u8, _⟩ := hall
      have u0 : u 0 = .pointer (some ⟨g8, 0, none⟩) := u0
      have u1 : u 1 = .pointer (some ⟨g8, 0, none⟩) := u1
      have u3 : u 3 = .pointer (some ⟨d, q, none⟩) := u3
      have u4 : u 4 = .pointer (some ⟨d, q, none⟩) := u4
      have u5 : u 5 = .pointer (some ⟨d, q, none⟩) := u5
      have u6 : u 6 = .pointer (some ⟨c, p, none⟩) := u6
      obtain ⟨g23, eu8, ga23, hb23, h23⟩ := u8
      have u8 : u 8 = .pointer (some ⟨g23, 0, none⟩) := eu8
      simp only [fillR, List.take_succ_cons, List.take_zero, Act.put, List.setIfInBounds_toArray, List.set_cons_succ, List.set_cons_zero, Nat.zero_add, Nat.reduceAdd, u0, u1, u3, u4, u5, u6, u8]
      clear u0 u1 u3 u4 u5 u6 u8
      have HC2 := Lib.hid hC.below
      have H23 := Lib.hid h23
      have h1' := H1.out.on HC2.out
      clear hC h23 ga23 hb23
      go_wp2_with fail
      refine (Sub_any h1'.slot h1' H23.out (okn_mul KX.out.1 KY.out.2) (okn_mul KY.out.1 KX.out.2)).mono ?_
      rintro e w3 ⟨rfl, h2, h3⟩
      have HB3 : Hid (Below w.heap.size w w3) := (HB1.out.trans (HC2.out.mono HB1.out.size)).trans (h3.below HB8.out (Nat.le_trans HB1.out.size HC2.out.size))
      have HN := Lib.hid h2
      clear h1' h2 h3 H23 HC2 HX1 HY1 HB1 H1
      have ha : Below w3.heap.size w3 (w3.alloc (.cells #[.bool false, .slice none 0 0] 218)) := (Below.refl _ _).alloc (Nat.le_refl _) _
      have hx3 := (HX.out.on HB3.out).on ha
      go_wp2_with fail
      refine (den_any hx3).mono ?_
      rintro e w4 ⟨gx, ix, rfl, h1, h2, h3⟩
      have hb4 := ha.trans (h2.mono ha.size)
      have HB4 := Lib.hid hb4
      have HDX := Lib.hid h1
      have HNX : Hid (gx ≠ w3.heap.size) := by
        have h4 := ha.size
        have h5 := HX.out.lt
        have h6 := HB3.out.size
        have h7 : (w3.alloc (.cells #[.bool false, .slice none 0 0] 218)).heap.size = w3.heap.size + 1 := by simp [World.alloc_eq]
        unfold Hid
        omega
      have HS : Hid (Slot w4 w3.heap.size 0 2) := (IntAt.new w3).slot.on h2
      clear h1 h2 h3 hx3 ha hb4
      have hy4 := (HY.out.on HB3.out).on HB4.out
      go_wp2_with fail
      refine (den_any hy4).mono ?_
      rintro e w5 ⟨gy, iy, rfl, h1, h2, h3⟩
      have hs5 := HS.out.on h2
      have hd5 := HDX.out.on h2
      have HB5 : Hid (Below w3.heap.size w3 w5) := HB4.out.trans (h2.mono HB4.out.size)
      have HDY := Lib.hid h1
      clear h1 h2 h3 hy4
      go_wp2_with fail
      refine (mul_any hs5 hd5 HDY.out KX.out.den KY.out.den).mono ?_
      rintro e w6 ⟨rfl, h1, h2⟩
      have HB6 : Hid (Below w3.heap.size w3 w6) := HB5.out.trans (h2.below (Nat.le_refl _) HB5.out.size)
      have HD := Lib.hid h1
      clear h1 h2 hs5 hd5 HDX HDY HS HB4 HB5 HNX
      have hz6 := (HZ.out.on HB3.out).on HB6.out
      have hn6 := HN.out.on HB6.out
      go_wp2_with fail
      refine (SetFrac_any hz6 hn6 HD.out (Int.mul_ne_zero (den_ne x) (den_ne y)) (okn_sub KX.out.1 KY.out.2 KY.out.1 KX.out.2) (okn_mul KX.out.2 KY.out.2)).mono ?_
      rintro e w7 ⟨rfl, h1, h2⟩
      rw [divInt_Sub] at h1
      have H1 := Lib.hid h1
      have HT := Lib.hid ((Touch.of_below (HB3.out.trans (HB6.out.mono HB3.out.size)) b o 4).trans h2)
      clear h1 h2 hz6 hn6
      go_wp2
      go_ret
      exact ⟨rfl, H1.out, HT.out⟩
end
end Go.Proofs.YtiolbdleihiocaaGreat
