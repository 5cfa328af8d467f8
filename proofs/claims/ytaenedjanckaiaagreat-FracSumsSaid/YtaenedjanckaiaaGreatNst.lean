/- Package frac: Nearest. -/
import Derived.Test.YtaenedjanckaiaaGreatNear
namespace Go.Proofs.YtaenedjanckaiaaGreat
set_option linter.unnecessarySimpa false
set_option linter.unusedVariables false
set_option linter.unusedSimpArgs false
open Go.RowKit

theorem below_put2 {w0 w : World} {g B : Nat} (h : Below B w0 w) (hg : B ≤ g) (v0 v1 : Value) : Below B w0 ((w.setCell ⟨g, 0, none⟩ v0).setCell ⟨g, 1, none⟩ v1) :=
  (h.setCell hg _).setCell hg _
/-- A fraction, and a place for a whole number. -/
structure FW (w0 w : World) (v1 : Array Value) : Prop where
  below : Below w0.heap.size w0 w
  one : BoxAt w w0.heap.size v1 25
  place : BoxAt w (w0.heap.size + 1) #[.bool false, .string ⟨#[]⟩] 23
theorem FW.new (w0 : World) (v1 : Array Value) : FW w0 ((w0.alloc (.cells v1 25)).alloc (.cells #[.bool false, .string ⟨#[]⟩] 23)) v1 := by
  have b1 := below_new w0 (.cells v1 25)
  have b2 := below_new (w0.alloc (.cells v1 25)) (.cells #[.bool false, .string ⟨#[]⟩] 23)
  exact ⟨b1.trans (b2.mono (by simp)), (BoxAt.new w0 _ _).on b2, BoxAt.new_at _ _ (by simp)⟩
theorem FW.on {w0 w w' : World} {v1 : Array Value} (h : FW w0 w v1) (k : Below w.heap.size w w') : FW w0 w' v1 :=
  ⟨h.below.trans (k.mono h.below.size), h.one.on k, h.place.on k⟩
/-- Rounded down. -/
def flQ (q : Rat) : Int := q.num / (q.den : Int)
/-- The nearest whole number. -/
def nearQ (x : Rat) : Int := if ((flQ (x + Rat.divInt 1 2) : Int) : Rat) - x = Rat.divInt 1 2 ∧ (flQ (x + Rat.divInt 1 2)).natAbs % 2 = 1 then flQ (x + Rat.divInt 1 2) - 1 else flQ (x + Rat.divInt 1 2)
def NearAns (va v : Value) (k : Int) : Prop := (∃ x, Fit x ∧ va = fracV x ∧ v = wholeV (nearQ x) ∧ k = 0) ∨ (¬ IsFrac va ∧ v = .agg #[.bool false, .string ⟨#[]⟩] ∧ k = 2)
theorem cmpQ_zero {x y : Rat} : cmpQ x y = 0 ↔ x = y := by
  unfold cmpQ
  constructor
  · intro h
    split at h
    · cases h
    · split at h
      · cases h
      · rename_i h1 h2
        exact Rat.le_antisymm (Rat.not_lt.1 h2) (Rat.not_lt.1 h1)
  · rintro rfl
    rw [if_neg (Rat.lt_irrefl), if_neg (Rat.lt_irrefl)]
theorem sz_flQ {q : Rat} {k : Nat} (h : Sz k q) : sz (flQ q) ≤ k := by
  have h1 := h.1
  rw [sz_le] at *
  exact Nat.lt_of_le_of_lt (Int.natAbs_ediv_le_natAbs _ _) h1
theorem sz_int {n : Int} {k : Nat} (h : sz n ≤ k) (hk : 1 ≤ k) : Sz k (n : Rat) := by
  refine ⟨by rw [Rat.num_intCast]; exact h, ?_⟩
  rw [Rat.den_intCast]
  exact Nat.le_trans (mag_size_le.2 (by decide : (1 : Int).natAbs < 256 ^ 1)) hk
theorem sz_half : Sz 1 (Rat.divInt 1 2) := sz_divInt (by decide) (sz_le.2 (by decide)) (sz_le.2 (by decide))
theorem FW.keep {w0 w w' : World} {v1 : Array Value} {g n : Nat} (h : FW w0 w v1) (hg : w0.heap.size + 2 ≤ g) (k : Touch w w' g 0 n) : FW w0 w' v1 := by
  have key : ∀ i cs T, i < w0.heap.size + 2 → BoxAt w i cs T → BoxAt w' i cs T := by
    intro i cs T hi hb
    unfold BoxAt
    rw [k.block i hb.lt (by omega)]
    exact hb
  have hl := h.place.lt
  exact ⟨h.below.trans (k.below (by omega) (by omega)), key _ _ _ (by omega) h.one, key _ _ _ (by omega) h.place⟩
set_option maxHeartbeats 3200000 in
set_option maxRecDepth 100000 in
theorem Nearest_any {w0 : World} (b c : Bool) (s t : ByteArray) (hs : s.size ≤ maxLen) (ht : t.size ≤ maxLen) :
    Calls Tryz.prog 32 #[.agg #[.bool b, .string s, .bool c, .string t]] w0 fun e w' => ∃ v k, e = .returned (.tuple #[v, .int .i64 k]) ∧ NearAns (.agg #[.bool b, .string s, .bool c, .string t]) v k ∧ Below w0.heap.size w0 w' := by
  have HS := Lib.hid hs
  have HT := Lib.hid ht
  have HW0 := Lib.hid (FW.new w0 #[.bool b, .string s, .bool c, .string t])
  clear hs ht
  go_enter Tryz.func32, Tryz.ntmps32
  go_wp2_with fail
  refine (May_any b c s t HS.out HT.out).mono ?_
  rintro e w1 ⟨r, rfl, hr, hb⟩
  have HW1 := Lib.hid (HW0.out.on hb)
  have HR := Lib.hid hr
  clear hb hr
  cases r
  · have HP := Lib.hid HW1.out.place
    have hq0 := HP.out.cell 0 _ rfl
    have hq1 := HP.out.cell 1 _ rfl
    have hf := HP.out.frozen
    go_wp2
    have hk := (HP.out.set 0 (.bool false)).set 1 (.string ⟨#[]⟩)
    have k0 := hk.cell 0 _ rfl
    have k1 := hk.cell 1 _ rfl
    exact bodyPost_ret (v := .tuple #[.agg #[.bool false, .string ⟨#[]⟩], .int .i64 2]) (by simp [results, Tryz.results32, go_sem, k0, k1]) rfl ⟨_, _, rfl, .inr ⟨fun h => Bool.noConfusion (HR.out.2 h), rfl, rfl⟩, below_put2 HW1.out.below (by omega) _ _⟩

  obtain ⟨x, hx⟩ := parts_of (by first | exact HR.out.1 rfl | exact HR.out.1 trivial)
  have HX := Lib.hid hx
  have hc0 := HW1.out.one.cell 0 (.bool b) rfl
  have hc1 := HW1.out.one.cell 1 (.string s) rfl
  have hc2 := HW1.out.one.cell 2 (.bool c) rfl
  have hc3 := HW1.out.one.cell 3 (.string t) rfl
  clear hx HR
  go_wp2_with fail
  refine (rat_frac HX.out).mono ?_
  rintro e w2 ⟨gr, rfl, _, h1, hb⟩
  have HW2 := Lib.hid (HW1.out.on hb)
  have HRR2 := Lib.hid h1
  clear h1 hb hc0 hc1 hc2 hc3
  go_wp2_with fail
  refine (NewRat_any (by decide) (by decide) (by decide)).mono ?_
  rintro e w3 ⟨gh, rfl, _, h1, hb⟩
  have HW3 := Lib.hid (HW2.out.on hb)
  have HRR3 := Lib.hid (HRR2.out.on hb)
  have HH3 := Lib.hid h1
  clear h1 hb
  obtain ⟨hf, hhf⟩ : ∃ hf, hf = Rat.divInt 1 2 := ⟨_, rfl⟩
  have HHF := Lib.hid hhf
  rw [← hhf] at HH3
  clear hhf
  have KX : Hid (Sz 1024 x) := HX.out.fit.sz
  have KH : Hid (Sz 1 hf) := by rw [HHF.out]; exact sz_half
  have KS : Hid (Sz 1026 (x + hf)) := KX.out.add KH.out
  have ha := below_new w3 (.cells #[.bool false, .slice none 0 0, .bool false, .slice none 0 0] 85)
  have HZ := Lib.hid (RatAt.new w3).slot
  have HA3 := Lib.hid ha
  have hr4 := HRR3.out.on ha
  have hh4 := HH3.out.on ha
  clear ha
  go_wp2_with fail
  refine (rAdd_any HZ.out hr4 hh4 (KX.out.okR (by decide)) (KH.out.okR (by decide))).mono ?_
  rintro e w4 ⟨rfl, h1, h2⟩
  have hb := HA3.out.trans (h2.below (Nat.le_refl _) HA3.out.size)
  have HW4 := Lib.hid (HW3.out.on hb)
  have HRR4 := Lib.hid (HRR3.out.on hb)
  have HH4 := Lib.hid (HH3.out.on hb)
  have HS4 := Lib.hid h1
  clear h1 h2 hb hr4 hh4 HZ HA3
  go_wp2_with fail
  refine (floor_any HS4.out (KS.out.okR (by decide))).mono ?_
  rintro e w5 ⟨gn, rfl, hgn, h1, hb⟩
  have HNOT : Hid (w0.heap.size + 2 ≤ gn) := Nat.le_trans HW4.out.place.lt hgn
  have HW5 := Lib.hid (HW4.out.on hb)
  have HRR5 := Lib.hid (HRR4.out.on hb)
  have HH5 := Lib.hid (HH4.out.on hb)
  obtain ⟨n, hn⟩ : ∃ n, n = flQ (x + hf) := ⟨_, rfl⟩
  have HN5 : Hid (IntAt w5 gn 0 n) := by rw [hn]; exact h1
  have KN : Hid (sz n ≤ 1026) := by rw [hn]; exact sz_flQ KS.out
  have HN := Lib.hid hn
  clear h1 hb hn
  have ha := below_new w5 (.cells #[.bool false, .slice none 0 0, .bool false, .slice none 0 0] 85)
  have hz := (RatAt.new w5).slot
  have hb2 := below_new (w5.alloc (.cells #[.bool false, .slice none 0 0, .bool false, .slice none 0 0] 85)) (.cells #[.bool false, .slice none 0 0, .bool false, .slice none 0 0] 85)
  have hz2 := (RatAt.new (w5.alloc (.cells #[.bool false, .slice none 0 0, .bool false, .slice none 0 0] 85))).slot
  rw [size_alloc] at hz2
  have HA := Lib.hid (ha.trans (hb2.mono ha.size))
  have HZ := Lib.hid (hz.on hb2)
  have HZ2 := Lib.hid hz2
  have hn6 := HN5.out.on HA.out
  have hlt := HN5.out.lt
  clear ha hz hb2 hz2
  go_wp2_with fail
  refine (SetInt_any HZ2.out hn6 (by omega)).mono ?_
  rintro e w6 ⟨rfl, h1, h2⟩
  have HT6 := Lib.hid (h2.below (B := w5.heap.size + 1) (Nat.le_refl _) (by have := HZ.out.lt; omega))
  have hb6 := HA.out.trans (HT6.out.mono (by omega))
  have HZ6 := Lib.hid (HZ.out.below HT6.out (by omega))
  have HW6 := Lib.hid (HW5.out.on hb6)
  have HRR6 := Lib.hid (HRR5.out.on hb6)
  have HH6 := Lib.hid (HH5.out.on hb6)
  have HN6 := Lib.hid (HN5.out.on hb6)
  have HNR := Lib.hid h1
  have HB6 := Lib.hid hb6
  have KNR : Hid (Sz 1026 (n : Rat)) := sz_int KN.out (by decide)
  clear h1 h2 hb6 hn6 HT6 HZ HZ2 HA
  go_wp2_with fail
  refine (rSub_any HZ6.out HNR.out HRR6.out (KNR.out.okR (by decide)) (KX.out.okR (by decide))).mono ?_
  rintro e w7 ⟨rfl, h1, h2⟩
  have hb7 := HB6.out.trans (h2.below (Nat.le_refl _) HB6.out.size)
  have HW7 := Lib.hid (HW5.out.on hb7)
  have HH7 := Lib.hid (HH5.out.on hb7)
  have HN7 := Lib.hid (HN5.out.on hb7)
  have HO7 := Lib.hid h1
  have KO : Hid (Sz 2051 ((n : Rat) - x)) := KNR.out.sub KX.out
  clear h1 h2 hb7 HNR HZ6 HB6
  go_wp2_with fail
  refine (rCmp_any HO7.out HH7.out (KO.out.okR (by decide)) (KH.out.okR (by decide))).mono ?_
  rintro e w8 ⟨rfl, hb⟩
  have HW8 := Lib.hid (HW7.out.on hb)
  have HN8 := Lib.hid (HN7.out.on hb)
  have KN2 : Hid (Okn n) := okn_size (Nat.le_trans KN.out (by decide))
  clear hb
  obtain ⟨kc, hkc⟩ : ∃ kc, kc = cmpQ ((n : Rat) - x) hf := ⟨_, rfl⟩
  rw [← hkc]
  have HKC := Lib.hid hkc
  clear hkc
  by_cases hc : kc = 0
  · subst hc
    have HOE : Hid ((n : Rat) - x = hf) := cmpQ_zero.1 HKC.out.symm
    go_wp2_with fail
    refine (Bit_any HN8.out 0 (by decide)).mono ?_
    rintro e w9 ⟨rfl, hb⟩
    have HW9 := Lib.hid (HW8.out.on hb)
    have HN9 := Lib.hid (HN8.out.on hb)
    clear hb
    rw [Nat.pow_zero, Nat.div_one]
    by_cases hp : n.natAbs % 2 = 1
    · have HP := Lib.hid hp
      have HNQ : Hid (nearQ x = n - 1) := by
        unfold Hid nearQ
        rw [← HHF.out, ← HN.out, if_pos ⟨HOE.out, HP.out⟩]
      rw [hp]
      clear hp
      go_wp2_with fail
      refine (NewInt_any (n := 1) (by decide)).mono ?_
      rintro e w10 ⟨g1, rfl, hg1, h1, hb⟩
      have HW10 := Lib.hid (HW9.out.on hb)
      have HN10 := Lib.hid (HN9.out.on hb)
      have H1 := Lib.hid h1
      clear h1 hb
      go_wp2_with fail
      refine (Sub_any HN10.out.slot HN10.out H1.out KN2.out (okn_i64 (by decide))).mono ?_
      rintro e w11 ⟨rfl, h1, h2⟩
      have HN11 := Lib.hid h1
      have HW11 : Hid (FW w0 w11 #[.bool b, .string s, .bool c, .string t]) := HW10.out.keep HNOT.out h2
      clear h1 h2
      go_wp2_with fail
      refine (back_agg HN11.out (okn_size (Nat.le_trans (sz_sub KN.out (Nat.le_trans (sz_i64 (by decide)) (by decide))) (by decide)))).mono ?_
      rintro e w12 ⟨p1, s1, rfl, hp1, hs1, hb⟩
      have HW12 := Lib.hid (HW11.out.on hb)
      have HP12 := Lib.hid HW12.out.place
      clear hb
      have hq0 := HP12.out.cell 0 _ rfl
      have hq1 := HP12.out.cell 1 _ rfl
      have hf := HP12.out.frozen
      go_wp2
      have hk := (HP12.out.set 0 (.bool p1)).set 1 (.string s1)
      have k0 := hk.cell 0 _ rfl
      have k1 := hk.cell 1 _ rfl
      exact bodyPost_ret (v := .tuple #[.agg #[.bool p1, .string s1], .int .i64 0]) (by simp [results, Tryz.results32, go_sem, k0, k1]) rfl ⟨_, _, rfl, .inl ⟨x, HX.out.fit, HX.out.val, by rw [HNQ.out, hp1.out, hs1.out]; rfl, rfl⟩, below_put2 HW12.out.below (by omega) _ _⟩

    · have HP := Lib.hid hp
      have hp0 : n.natAbs % 2 = 0 := by omega
      have HNQ : Hid (nearQ x = n) := by
        unfold Hid nearQ
        rw [← HHF.out, ← HN.out, if_neg (fun h => HP.out h.2)]
      rw [hp0]
      clear hp hp0
      go_wp2_with fail
      refine (back_agg HN9.out KN2.out).mono ?_
      rintro e w12 ⟨p1, s1, rfl, hp1, hs1, hb⟩
      have HW12 := Lib.hid (HW9.out.on hb)
      have HP12 := Lib.hid HW12.out.place
      clear hb
      have hq0 := HP12.out.cell 0 _ rfl
      have hq1 := HP12.out.cell 1 _ rfl
      have hf := HP12.out.frozen
      go_wp2
      have hk := (HP12.out.set 0 (.bool p1)).set 1 (.string s1)
      have k0 := hk.cell 0 _ rfl
      have k1 := hk.cell 1 _ rfl
      exact bodyPost_ret (v := .tuple #[.agg #[.bool p1, .string s1], .int .i64 0]) (by simp [results, Tryz.results32, go_sem, k0, k1]) rfl ⟨_, _, rfl, .inl ⟨x, HX.out.fit, HX.out.val, by rw [HNQ.out, hp1.out, hs1.out]; rfl, rfl⟩, below_put2 HW12.out.below (by omega) _ _⟩

  · have hkk : (kc == 0) = false := by rw [beq_eq_false_iff_ne]; exact hc
    have HNE : Hid (¬ (n : Rat) - x = hf) := fun e => hc (by rw [HKC.out]; exact cmpQ_zero.2 e)
    have HNQ : Hid (nearQ x = n) := by
      unfold Hid nearQ
      rw [← HHF.out, ← HN.out, if_neg (fun h => HNE.out h.1)]
    clear hc
    go_wp2_with fail
    refine (back_agg HN8.out KN2.out).mono ?_
    rintro e w12 ⟨p1, s1, rfl, hp1, hs1, hb⟩
    have HW12 := Lib.hid (HW8.out.on hb)
    have HP12 := Lib.hid HW12.out.place
    clear hb
    have hq0 := HP12.out.cell 0 _ rfl
    have hq1 := HP12.out.cell 1 _ rfl
    have hf := HP12.out.frozen
    go_wp2
    have hk := (HP12.out.set 0 (.bool p1)).set 1 (.string s1)
    have k0 := hk.cell 0 _ rfl
    have k1 := hk.cell 1 _ rfl
    exact bodyPost_ret (v := .tuple #[.agg #[.bool p1, .string s1], .int .i64 0]) (by simp [results, Tryz.results32, go_sem, k0, k1]) rfl ⟨_, _, rfl, .inl ⟨x, HX.out.fit, HX.out.val, by rw [HNQ.out, hp1.out, hs1.out]; rfl, rfl⟩, below_put2 HW12.out.below (by omega) _ _⟩
end Go.Proofs.YtaenedjanckaiaaGreat
