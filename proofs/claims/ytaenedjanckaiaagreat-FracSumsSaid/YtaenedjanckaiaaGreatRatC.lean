/- Package big: fractions: Cmp, Num, Denom, Sign, Set, Neg, Inv, SetInt, SetInt64, NewRat. -/
import Derived.Test.YtaenedjanckaiaaGreatRatB
namespace Go.Proofs.YtaenedjanckaiaaGreat
set_option linter.unnecessarySimpa false
set_option linter.unusedVariables false
set_option linter.unusedSimpArgs false
open Go.RowKit

/-- -1, 0, 1. -/
def cmpQ (x y : Rat) : Int := if x < y then -1 else if y < x then 1 else 0
theorem cmpQ_of (x y : Rat) : cmpI (x.num * (y.den : Int)) (y.num * (x.den : Int)) = cmpQ x y := by
  simp only [cmpI, cmpQ, Rat.lt_iff]

set_option maxHeartbeats 1600000 in
set_option maxRecDepth 100000 in
theorem rCmp_any {w : World} {c p d q : Nat} {x y : Rat} (hx : RatAt w c p x) (hy : RatAt w d q y) (kx : OkR x) (ky : OkR y) :
    Calls Tryz.prog 54 #[.pointer (some ⟨c, p, none⟩), .pointer (some ⟨d, q, none⟩)] w fun e w' => e = .returned (.int .i64 (cmpQ x y)) ∧ Below w.heap.size w w' := by
  have HX := Lib.hid hx
  have HY := Lib.hid hy
  have KX := Lib.hid kx
  have KY := Lib.hid ky
  clear hx hy kx ky
  go_enter Tryz.func54, Tryz.ntmps54
  go_wp2
  refine wp_region_ghost 14 (GC w.heap.size w [0, 5, 7, 12]) (fun γ wq _ wr => GE w.heap.size [(0, 6), (7, 13)] γ wq wr) (fun i γ wq v => match i with
      | 0 => VA w.heap.size wq v
      | 1 => v = .pointer (some ⟨c, p, none⟩)
      | 2 => v = .pointer (some ⟨c, p, none⟩)
      | 3 => v = .pointer (some ⟨c, p, none⟩)
      | 4 => v = .pointer (some ⟨d, q, none⟩)
      | 5 => VD ((y).den : Int) wq v
      | 6 => VM w.heap.size 0 (x.num * (y.den : Int)) γ wq v
      | 7 => VA w.heap.size wq v
      | 8 => v = .pointer (some ⟨d, q, none⟩)
      | 9 => v = .pointer (some ⟨d, q, none⟩)
      | 10 => v = .pointer (some ⟨d, q, none⟩)
      | 11 => v = .pointer (some ⟨c, p, none⟩)
      | 12 => VD ((x).den : Int) wq v
      | 13 => VM w.heap.size 7 (y.num * (x.den : Int)) γ wq v
      | _ => True) (by kernel_rfl) (by kernel_rfl) (by kernel_rfl) (GC.start _ (Nat.le_refl _)) ?_ ⟨?_, ?_, ?_, ?_, ?_, ?_, ?_, ?_, ?_, ?_, ?_, ?_, ?_, ?_, trivial⟩ ?_
  · intro i γ w1 k xq w2 v hC hC2 hE hk hi hV
    match i with
    | 0 => exact VA.stable hV hE
    | 1 => exact hV
    | 2 => exact hV
    | 3 => exact hV
    | 4 => exact hV
    | 5 => exact VD.stable 5 hV hC hE hi rfl
    | 6 => exact VM.stable 6 k hV hC hE hk hi rfl
    | 7 => exact VA.stable hV hE
    | 8 => exact hV
    | 9 => exact hV
    | 10 => exact hV
    | 11 => exact hV
    | 12 => exact VD.stable 12 hV hC hE hi rfl
    | 13 => exact VM.stable 13 k hV hC hE hk hi rfl
    | _ + 14 => trivial
  · intro a' γ w' hag hC hk hd K hK
    have hb : Below w'.heap.size w' (w'.alloc (.cells #[.bool false, .slice none 0 0] 83)) := (Below.refl _ _).alloc (Nat.le_refl _) _
    have HK := Lib.hid (hK (.pointer (some ⟨w'.heap.size, 0, none⟩)) _ (hC.own 0 _ _ hb (IntAt.new w').lt (.inr (Nat.le_refl _))) (GE.below _ _ hb) ⟨_, rfl, hC.size, (IntAt.new w').slot⟩)
    clear hb hK hC
    go_step
    exact HK.out
  · intro a' γ w' hag hC hk hd K hK
    have e0 : a'.tmps.getD 0 undef = .pointer (some ⟨c, p, none⟩) := hag 0 rfl
    go_step
    exact hK _ _ (hC.step 1 _ rfl (Below.refl _ _)) (GE.refl _ _ _ _) rfl
  · intro a' γ w' hag hC hk hd K hK
    have e6 : a'.tmps.getD 6 undef = .pointer (some ⟨c, p, none⟩) := hd.1.2
    go_step
    exact hK _ _ (hC.step 2 _ rfl (Below.refl _ _)) (GE.refl _ _ _ _) rfl
  · intro a' γ w' hag hC hk hd K hK
    have e7 : a'.tmps.getD 7 undef = .pointer (some ⟨c, p, none⟩) := hd.1.2
    go_step
    exact hK _ _ (hC.step 3 _ rfl (Below.refl _ _)) (GE.refl _ _ _ _) rfl
  · intro a' γ w' hag hC hk hd K hK
    have e1 : a'.tmps.getD 1 undef = .pointer (some ⟨d, q, none⟩) := hag 1 rfl
    go_step
    exact hK _ _ (hC.step 4 _ rfl (Below.refl _ _)) (GE.refl _ _ _ _) rfl
  · intro a' γ w' hag hC hk hd K hK
    have e9 : a'.tmps.getD 9 undef = .pointer (some ⟨d, q, none⟩) := hd.1.2
    have hx := HY.out.on hC.below
    go_step
    refine (den_any hx).mono ?_
    rintro e w2 ⟨g, j, rfl, h1, h2, h3⟩
    exact hK _ _ (hC.own 5 _ _ h2 h1.lt (h3.imp (fun e => by rw [e]; exact HY.out.lt) id)) (GE.below _ _ h2) ⟨_, _, rfl, h1⟩
  · intro a' γ w' hag hC hk hd K hK
    have q5 : VA w.heap.size w' (a'.tmps.getD 5 undef) := hd.1.2
    have gg5 : γ 0 = some (a'.tmps.getD 5 undef) := hd.1.1
    obtain ⟨g5, e5, hb5, hs5⟩ := q5
    rw [e5] at gg5
    have e5 : a'.tmps.getD 5 undef = .pointer (some ⟨g5, 0, none⟩) := e5
    have e8 : a'.tmps.getD 8 undef = .pointer (some ⟨c, p, none⟩) := hd.2.1.2
    have q10 : VD ((y).den : Int) w' (a'.tmps.getD 10 undef) := hd.2.2.1.2
    have gg10 : γ 5 = some (a'.tmps.getD 10 undef) := hd.2.2.1.1
    obtain ⟨g10, i10, e10, h10⟩ := q10
    rw [e10] at gg10
    have e10 : a'.tmps.getD 10 undef = .pointer (some ⟨g10, i10, none⟩) := e10
    have hx := Lib.hid (mul_any hs5 (HX.out.on hC.below).num h10 KX.out.num KY.out.den)
    go_step
    refine hx.out.mono ?_
    rintro e w2 ⟨rfl, h1, h2⟩
    exact hK _ _ (hC.step 6 _ rfl (h2.below hb5 hC.size)) (GE.write 0 6 rfl hs5 h2 gg5 hk hb5) ⟨_, rfl, upd_some gg5 hk, hb5, h1⟩
  · intro a' γ w' hag hC hk hd K hK
    have hb : Below w'.heap.size w' (w'.alloc (.cells #[.bool false, .slice none 0 0] 83)) := (Below.refl _ _).alloc (Nat.le_refl _) _
    have HK := Lib.hid (hK (.pointer (some ⟨w'.heap.size, 0, none⟩)) _ (hC.own 7 _ _ hb (IntAt.new w').lt (.inr (Nat.le_refl _))) (GE.below _ _ hb) ⟨_, rfl, hC.size, (IntAt.new w').slot⟩)
    clear hb hK hC
    go_step
    exact HK.out
  · intro a' γ w' hag hC hk hd K hK
    have e1 : a'.tmps.getD 1 undef = .pointer (some ⟨d, q, none⟩) := hag 1 rfl
    go_step
    exact hK _ _ (hC.step 8 _ rfl (Below.refl _ _)) (GE.refl _ _ _ _) rfl
  · intro a' γ w' hag hC hk hd K hK
    have e13 : a'.tmps.getD 13 undef = .pointer (some ⟨d, q, none⟩) := hd.1.2
    go_step
    exact hK _ _ (hC.step 9 _ rfl (Below.refl _ _)) (GE.refl _ _ _ _) rfl
  · intro a' γ w' hag hC hk hd K hK
    have e14 : a'.tmps.getD 14 undef = .pointer (some ⟨d, q, none⟩) := hd.1.2
    go_step
    exact hK _ _ (hC.step 10 _ rfl (Below.refl _ _)) (GE.refl _ _ _ _) rfl
  · intro a' γ w' hag hC hk hd K hK
    have e0 : a'.tmps.getD 0 undef = .pointer (some ⟨c, p, none⟩) := hag 0 rfl
    go_step
    exact hK _ _ (hC.step 11 _ rfl (Below.refl _ _)) (GE.refl _ _ _ _) rfl
  · intro a' γ w' hag hC hk hd K hK
    have e16 : a'.tmps.getD 16 undef = .pointer (some ⟨c, p, none⟩) := hd.1.2
    have hx := HX.out.on hC.below
    go_step
    refine (den_any hx).mono ?_
    rintro e w2 ⟨g, j, rfl, h1, h2, h3⟩
    exact hK _ _ (hC.own 12 _ _ h2 h1.lt (h3.imp (fun e => by rw [e]; exact HX.out.lt) id)) (GE.below _ _ h2) ⟨_, _, rfl, h1⟩
  · intro a' γ w' hag hC hk hd K hK
    have q12 : VA w.heap.size w' (a'.tmps.getD 12 undef) := hd.1.2
    have gg12 : γ 7 = some (a'.tmps.getD 12 undef) := hd.1.1
    obtain ⟨g12, e12, hb12, hs12⟩ := q12
    rw [e12] at gg12
    have e12 : a'.tmps.getD 12 undef = .pointer (some ⟨g12, 0, none⟩) := e12
    have e15 : a'.tmps.getD 15 undef = .pointer (some ⟨d, q, none⟩) := hd.2.1.2
    have q17 : VD ((x).den : Int) w' (a'.tmps.getD 17 undef) := hd.2.2.1.2
    have gg17 : γ 12 = some (a'.tmps.getD 17 undef) := hd.2.2.1.1
    obtain ⟨g17, i17, e17, h17⟩ := q17
    rw [e17] at gg17
    have e17 : a'.tmps.getD 17 undef = .pointer (some ⟨g17, i17, none⟩) := e17
    have hx := Lib.hid (mul_any hs12 (HY.out.on hC.below).num h17 KY.out.num KX.out.den)
    go_step
    refine hx.out.mono ?_
    rintro e w2 ⟨rfl, h1, h2⟩
    exact hK _ _ (hC.step 13 _ rfl (h2.below hb12 hC.size)) (GE.write 7 13 rfl hs12 h2 gg12 hk hb12) ⟨_, rfl, upd_some gg12 hk, hb12, h1⟩
  · intro γ u w' hC hgh hall
    obtain ⟨u0, u1, u2, u3, u4, u5, u6, u7, u8, u9, u10, u11, u12, u13, _⟩ := hall
    have u1 : u 1 = .pointer (some ⟨c, p, none⟩) := u1
    have u2 : u 2 = .pointer (some ⟨c, p, none⟩) := u2
    have u3 : u 3 = .pointer (some ⟨c, p, none⟩) := u3
    have u4 : u 4 = .pointer (some ⟨d, q, none⟩) := u4
    obtain ⟨g11, eu6, ga11, hb11, h11⟩ := u6
    have u6 : u 6 = .pointer (some ⟨g11, 0, none⟩) := eu6
    have u8 : u 8 = .pointer (some ⟨d, q, none⟩) := u8
    have u9 : u 9 = .pointer (some ⟨d, q, none⟩) := u9
    have u10 : u 10 = .pointer (some ⟨d, q, none⟩) := u10
    have u11 : u 11 = .pointer (some ⟨c, p, none⟩) := u11
    obtain ⟨g18, eu13, ga18, hb18, h18⟩ := u13
    have u13 : u 13 = .pointer (some ⟨g18, 0, none⟩) := eu13
    simp only [fillR, List.take_succ_cons, List.take_zero, Act.put, List.setIfInBounds_toArray, List.set_cons_succ, List.set_cons_zero, Nat.zero_add, Nat.reduceAdd, u1, u2, u3, u4, u6, u8, u9, u10, u11, u13]
    clear u1 u2 u3 u4 u6 u8 u9 u10 u11 u13
    have HC := Lib.hid hC.below
    have H11 := Lib.hid h11
    have H18 := Lib.hid h18
    clear hC h11 h18 ga11 ga18 hb11 hb18
    go_wp2_with fail
    refine (Cmp_any H11.out H18.out).mono ?_
    rintro e w3 ⟨rfl, h1⟩
    rw [cmpQ_of]
    have H1 := Lib.hid (HC.out.trans (h1.mono HC.out.size))
    clear h1
    go_wp2
    go_ret
    exact ⟨rfl, H1.out⟩

theorem rNum_any {w : World} {c p : Nat} {x : Rat} (hx : RatAt w c p x) :
    Calls Tryz.prog 96 #[.pointer (some ⟨c, p, none⟩)] w fun e w' => ∃ g, e = .returned (.pointer (some ⟨g, 0, none⟩)) ∧ w.heap.size ≤ g ∧ IntAt w' g 0 x.num ∧ Below w.heap.size w w' := by
  have HX := Lib.hid hx
  clear hx
  go_enter Tryz.func96, Tryz.ntmps96
  have ha : Below w.heap.size w (w.alloc (.cells #[.bool false, .slice none 0 0] 83)) := (Below.refl _ _).alloc (Nat.le_refl _) _
  go_wp2_with fail
  refine (set_any (IntAt.new w).slot (HX.out.on ha).num).mono ?_
  rintro e w1 ⟨rfl, h1, h2⟩
  have H1 := Lib.hid h1
  have H2 := Lib.hid (ha.trans (h2.below (Nat.le_refl _) ha.size))
  clear h1 h2 ha
  go_wp2
  go_ret
  exact ⟨_, rfl, Nat.le_refl _, H1.out, H2.out⟩

theorem rDenom_any {w : World} {c p : Nat} {x : Rat} (hx : RatAt w c p x) :
    Calls Tryz.prog 97 #[.pointer (some ⟨c, p, none⟩)] w fun e w' => ∃ g, e = .returned (.pointer (some ⟨g, 0, none⟩)) ∧ w.heap.size ≤ g ∧ IntAt w' g 0 x.den ∧ Below w.heap.size w w' := by
  have HX := Lib.hid hx
  clear hx
  go_enter Tryz.func97, Tryz.ntmps97
  have ha : Below w.heap.size w (w.alloc (.cells #[.bool false, .slice none 0 0] 83)) := (Below.refl _ _).alloc (Nat.le_refl _) _
  go_wp2_with fail
  refine (den_any (HX.out.on ha)).mono ?_
  rintro e w1 ⟨g, i, rfl, h1, h2, _⟩
  have hs := (IntAt.new w).slot.on h2
  have HB := Lib.hid (ha.trans (h2.mono ha.size))
  have H1 := Lib.hid h1
  clear h1 h2 ha
  go_wp2_with fail
  refine (set_any hs H1.out).mono ?_
  rintro e w2 ⟨rfl, h1, h2⟩
  have H2 := Lib.hid h1
  have H3 := Lib.hid (HB.out.trans (h2.below (Nat.le_refl _) HB.out.size))
  clear h1 h2 hs
  go_wp2
  go_ret
  exact ⟨_, rfl, Nat.le_refl _, H2.out, H3.out⟩

theorem rSign_any {w : World} {c p : Nat} {x : Rat} (hx : RatAt w c p x) :
    Calls Tryz.prog 70 #[.pointer (some ⟨c, p, none⟩)] w fun e w' => e = .returned (.int .i64 x.num.sign) ∧ w = w' := by
  have HX := Lib.hid hx
  clear hx
  go_enter Tryz.func70, Tryz.ntmps70
  go_wp2_with fail
  refine (sign_any HX.out.num).mono ?_
  rintro e w1 ⟨rfl, rfl⟩
  go_wp2
  go_ret
  exact ⟨rfl, rfl⟩

set_option maxHeartbeats 1600000 in
theorem rSet_any {w : World} {b o c p : Nat} {x : Rat} (hz : Slot w b o 4) (hx : RatAt w c p x) :
    Calls Tryz.prog 131 #[.pointer (some ⟨b, o, none⟩), .pointer (some ⟨c, p, none⟩)] w fun e w' => e = .returned (.pointer (some ⟨b, o, none⟩)) ∧ RatAt w' b o x ∧ Touch w w' b o 4 := by
  have HX := Lib.hid hx
  have HZ := Lib.hid hz
  clear hx hz
  go_enter Tryz.func131, Tryz.ntmps131
  have ha : Below w.heap.size w (w.alloc (.cells #[.bool false, .slice none 0 0] 83)) := (Below.refl _ _).alloc (Nat.le_refl _) _
  go_wp2_with fail
  refine (set_any (IntAt.new w).slot (HX.out.on ha).num).mono ?_
  rintro e w1 ⟨rfl, h1, h2⟩
  have HB1 := Lib.hid (ha.trans (h2.below (Nat.le_refl _) ha.size))
  have HN1 := Lib.hid h1
  clear h1 h2 ha
  have ha : Below w1.heap.size w1 (w1.alloc (.cells #[.bool false, .slice none 0 0] 83)) := (Below.refl _ _).alloc (Nat.le_refl _) _
  go_wp2_with fail
  refine (den_any ((HX.out.on HB1.out).on ha)).mono ?_
  rintro e w2 ⟨gd, id, rfl, h1, h2, _⟩
  have hs := (IntAt.new w1).slot.on h2
  have HB2 := Lib.hid (ha.trans (h2.mono ha.size))
  have H1 := Lib.hid h1
  clear h1 h2 ha
  go_wp2_with fail
  refine (set_any hs H1.out).mono ?_
  rintro e w3 ⟨rfl, h1, h2⟩
  have hb3 : Below w1.heap.size w1 w3 := HB2.out.trans (h2.below (Nat.le_refl _) HB2.out.size)
  have HN4 := Lib.hid (HN1.out.on hb3)
  have HD4 := Lib.hid h1
  have HZ4 : Hid (Slot w3 b o 4) := (HZ.out.on HB1.out).on hb3
  have HB4 : Hid (Below w.heap.size w w3) := HB1.out.trans (hb3.mono HB1.out.size)
  have HNE : Hid (w.heap.size ≠ b ∧ w1.heap.size ≠ b) := by
    have h3 := HZ.out.lt
    have h5 := HB1.out.size
    constructor <;> omega
  clear h1 h2 hs hb3 HN1 HX HZ HB1 HB2 H1
  revert HNE HN4 HD4
  obtain ⟨g1, hg1⟩ : ∃ g, g = w.heap.size := ⟨_, rfl⟩
  rw [← hg1]
  rw [← hg1] at HB4
  have HBW := Lib.hid hg1
  clear hg1
  generalize w1.heap.size = g2
  intro HN4 HD4 HNE
  obtain ⟨A1, l1, c1, hn0, hn1, hnv, hnl⟩ := HN4.out.open_
  obtain ⟨A2, l2, c2, hd0, hd1, hdv, hdl⟩ := HD4.out.open_
  have HW1 := Lib.hid hnv
  have HW2 := Lib.hid hdv
  clear hnv hdv
  rw [Nat.zero_add] at hn1 hd1
  generalize hs1 : decide (x.num < 0) = s1 at hn0
  generalize hs2 : decide ((x.den : Int) < 0) = s2 at hd0
  have HS1 := Lib.hid hs1
  have HS2 := Lib.hid hs2
  clear hs1 hs2
  obtain ⟨v0, hv0⟩ := HZ4.out.cell o (by omega)
  obtain ⟨v1, hv1⟩ := HZ4.out.cell (o + 1) (by omega)
  obtain ⟨v2, hv2⟩ := HZ4.out.cell (o + 2) (by omega)
  obtain ⟨v3, hv3⟩ := HZ4.out.cell (o + 2 + 1) (by omega)
  have hf : ∀ i, w3.frozen? ⟨b, i, none⟩ = false := fun i => HZ4.out.frozen i
  have hg1 := HNE.out.1
  have hg2 := HNE.out.2
  go_wp2
  go_region
  obtain ⟨hr, ht⟩ := ratAt_set HZ4.out HW1.out HW2.out HS1.out HS2.out
  have HRA := Lib.hid hr
  have HTO := Lib.hid ht
  clear hr ht
  go_wp2
  go_ret
  have hb := HB4.out
  rw [HBW.out] at hb
  exact ⟨rfl, HRA.out.on (Below.refl _ _).drew, (((Touch.of_below hb b o 4).trans HTO.out)).drew⟩

theorem NewRat_any {w : World} {n m : Int} (hn : -9223372036854775808 ≤ n ∧ n ≤ 9223372036854775807) (hm : -9223372036854775808 ≤ m ∧ m ≤ 9223372036854775807) (h0 : m ≠ 0) :
    Calls Tryz.prog 77 #[.int .i64 n, .int .i64 m] w fun e w' => ∃ g, e = .returned (.pointer (some ⟨g, 0, none⟩)) ∧ w.heap.size ≤ g ∧ RatAt w' g 0 (Rat.divInt n m) ∧ Below w.heap.size w w' := by
  have HN := Lib.hid hn
  have HM := Lib.hid hm
  have H0 := Lib.hid h0
  have KN : Hid (Okn n) := Okn.small (Nat.lt_of_le_of_lt (show n.natAbs ≤ 9223372036854775808 by omega) (by decide))
  have KM : Hid (Okn m) := Okn.small (Nat.lt_of_le_of_lt (show m.natAbs ≤ 9223372036854775808 by omega) (by decide))
  clear hn hm h0
  go_enter Tryz.func77, Tryz.ntmps77
  have ha : Below w.heap.size w (w.alloc (.cells #[.bool false, .slice none 0 0, .bool false, .slice none 0 0] 85)) := (Below.refl _ _).alloc (Nat.le_refl _) _
  go_wp2_with fail
  refine (NewInt_any HN.out).mono ?_
  rintro e w1 ⟨g1, rfl, _, h1, h2⟩
  have HS := Lib.hid ((RatAt.new w).slot.on h2)
  have HB1 := Lib.hid (ha.trans (h2.mono ha.size))
  have H1 := Lib.hid h1
  clear h1 h2 ha
  go_wp2_with fail
  refine (NewInt_any HM.out).mono ?_
  rintro e w2 ⟨g2, rfl, _, h1, h2⟩
  have hs := HS.out.on h2
  have hn2 := H1.out.on h2
  have HB2 := Lib.hid (HB1.out.trans (h2.mono HB1.out.size))
  have H2 := Lib.hid h1
  clear h1 h2 HB1
  go_wp2_with fail
  refine (SetFrac_any hs hn2 H2.out H0.out KN.out KM.out).mono ?_
  rintro e w3 ⟨rfl, h1, h2⟩
  have H3 := Lib.hid h1
  have HB3 := Lib.hid (HB2.out.trans (h2.below (Nat.le_refl _) HB2.out.size))
  clear h1 h2 hs hn2
  go_wp2
  go_ret
  exact ⟨_, rfl, Nat.le_refl _, H3.out, HB3.out⟩

theorem divInt_inv (x : Rat) : Rat.divInt x.den x.num = x⁻¹ := (Rat.inv_def x).symm

set_option maxRecDepth 100000 in
theorem rInv_any {w : World} {b o c p : Nat} {x : Rat} (hz : Slot w b o 4) (hx : RatAt w c p x) (kx : OkR x) (h0 : x ≠ 0) :
    Calls Tryz.prog 71 #[.pointer (some ⟨b, o, none⟩), .pointer (some ⟨c, p, none⟩)] w fun e w' => e = .returned (.pointer (some ⟨b, o, none⟩)) ∧ RatAt w' b o x⁻¹ ∧ Touch w w' b o 4 := by
  have HX := Lib.hid hx
  have HZ := Lib.hid hz
  have KX := Lib.hid kx
  have HN0 : Hid (x.num ≠ 0) := fun h => h0 (Rat.num_eq_zero.1 h)
  clear hx hz kx h0
  go_enter Tryz.func71, Tryz.ntmps71
  go_wp2
  refine wp_region_ghost 6 (GC w.heap.size w [2]) (fun γ wq _ wr => GE w.heap.size [] γ wq wr) (fun i γ wq v => match i with
      | 0 => v = .pointer (some ⟨b, o, none⟩)
      | 1 => v = .pointer (some ⟨c, p, none⟩)
      | 2 => VD ((x).den : Int) wq v
      | 3 => v = .pointer (some ⟨c, p, none⟩)
      | 4 => v = .pointer (some ⟨c, p, none⟩)
      | 5 => v = .pointer (some ⟨c, p, none⟩)
      | _ => True) (by kernel_rfl) (by kernel_rfl) (by kernel_rfl) (GC.start _ (Nat.le_refl _)) ?_ ⟨?_, ?_, ?_, ?_, ?_, ?_, trivial⟩ ?_
  · intro i γ w1 k xq w2 v hC hC2 hE hk hi hV
    match i with
    | 0 => exact hV
    | 1 => exact hV
    | 2 => exact VD.stable 2 hV hC hE hi rfl
    | 3 => exact hV
    | 4 => exact hV
    | 5 => exact hV
    | _ + 6 => trivial
  · intro a' γ w' hag hC hk hd K hK
    have e0 : a'.tmps.getD 0 undef = .pointer (some ⟨b, o, none⟩) := hag 0 rfl
    go_step
    exact hK _ _ (hC.step 0 _ rfl (Below.refl _ _)) (GE.refl _ _ _ _) rfl
  · intro a' γ w' hag hC hk hd K hK
    have e1 : a'.tmps.getD 1 undef = .pointer (some ⟨c, p, none⟩) := hag 1 rfl
    go_step
    exact hK _ _ (hC.step 1 _ rfl (Below.refl _ _)) (GE.refl _ _ _ _) rfl
  · intro a' γ w' hag hC hk hd K hK
    have e6 : a'.tmps.getD 6 undef = .pointer (some ⟨c, p, none⟩) := hd.1.2
    have hx := HX.out.on hC.below
    go_step
    refine (den_any hx).mono ?_
    rintro e w2 ⟨g, j, rfl, h1, h2, h3⟩
    exact hK _ _ (hC.own 2 _ _ h2 h1.lt (h3.imp (fun e => by rw [e]; exact HX.out.lt) id)) (GE.below _ _ h2) ⟨_, _, rfl, h1⟩
  · intro a' γ w' hag hC hk hd K hK
    have e1 : a'.tmps.getD 1 undef = .pointer (some ⟨c, p, none⟩) := hag 1 rfl
    go_step
    exact hK _ _ (hC.step 3 _ rfl (Below.refl _ _)) (GE.refl _ _ _ _) rfl
  · intro a' γ w' hag hC hk hd K hK
    have e8 : a'.tmps.getD 8 undef = .pointer (some ⟨c, p, none⟩) := hd.1.2
    go_step
    exact hK _ _ (hC.step 4 _ rfl (Below.refl _ _)) (GE.refl _ _ _ _) rfl
  · intro a' γ w' hag hC hk hd K hK
    have e9 : a'.tmps.getD 9 undef = .pointer (some ⟨c, p, none⟩) := hd.1.2
    go_step
    exact hK _ _ (hC.step 5 _ rfl (Below.refl _ _)) (GE.refl _ _ _ _) rfl
  · intro γ u w' hC hgh hall
    obtain ⟨u0, u1, u2, u3, u4, u5, _⟩ := hall
    have u0 : u 0 = .pointer (some ⟨b, o, none⟩) := u0
    have u1 : u 1 = .pointer (some ⟨c, p, none⟩) := u1
    obtain ⟨g7, i7, eu2, h7⟩ := u2
    have u2 : u 2 = .pointer (some ⟨g7, i7, none⟩) := eu2
    have u3 : u 3 = .pointer (some ⟨c, p, none⟩) := u3
    have u4 : u 4 = .pointer (some ⟨c, p, none⟩) := u4
    have u5 : u 5 = .pointer (some ⟨c, p, none⟩) := u5
    simp only [fillR, List.take_succ_cons, List.take_zero, Act.put, List.setIfInBounds_toArray, List.set_cons_succ, List.set_cons_zero, Nat.zero_add, Nat.reduceAdd, u0, u1, u2, u3, u4, u5]
    clear u0 u1 u2 u3 u4 u5
    have HC := Lib.hid hC.below
    have H7 := Lib.hid h7
    have hz2 := HZ.out.on HC.out
    have hx2 := HX.out.on HC.out
    clear hC h7
    go_wp2_with fail
    refine (SetFrac_any hz2 H7.out hx2.num HN0.out KX.out.den KX.out.num).mono ?_
    rintro e w3 ⟨rfl, h1, h2⟩
    rw [divInt_inv] at h1
    have H1 := Lib.hid h1
    have HT := Lib.hid ((Touch.of_below HC.out b o 4).trans h2)
    clear h1 h2 hz2 hx2
    go_wp2
    go_ret
    exact ⟨rfl, H1.out, HT.out⟩

set_option maxRecDepth 100000 in
theorem rNeg_any {w : World} {b o c p : Nat} {x : Rat} (hz : Slot w b o 4) (hx : RatAt w c p x) :
    Calls Tryz.prog 111 #[.pointer (some ⟨b, o, none⟩), .pointer (some ⟨c, p, none⟩)] w fun e w' => e = .returned (.pointer (some ⟨b, o, none⟩)) ∧ RatAt w' b o (-x) ∧ Touch w w' b o 4 := by
  have HX := Lib.hid hx
  have HZ := Lib.hid hz
  clear hx hz
  go_enter Tryz.func111, Tryz.ntmps111
  go_wp2_with fail
  refine (rSet_any HZ.out HX.out).mono ?_
  rintro e w1 ⟨rfl, h1, h2⟩
  have H1 := Lib.hid h1
  have H2 := Lib.hid h2
  clear h1 h2
  go_wp2
  refine wp_region_ghost 6 (GC w1.heap.size w1 []) (fun γ wq _ wr => GE w1.heap.size [] γ wq wr) (fun i γ wq v => match i with
      | 0 => v = .pointer (some ⟨b, o, none⟩)
      | 1 => v = .pointer (some ⟨b, o, none⟩)
      | 2 => v = .pointer (some ⟨b, o, none⟩)
      | 3 => v = .pointer (some ⟨b, o, none⟩)
      | 4 => v = .pointer (some ⟨b, o, none⟩)
      | 5 => v = .pointer (some ⟨b, o, none⟩)
      | _ => True) (by kernel_rfl) (by kernel_rfl) (by kernel_rfl) (GC.start _ (Nat.le_refl _)) ?_ ⟨?_, ?_, ?_, ?_, ?_, ?_, trivial⟩ ?_
  · intro i γ w1 k xq w2 v hC hC2 hE hk hi hV
    match i with
    | 0 => exact hV
    | 1 => exact hV
    | 2 => exact hV
    | 3 => exact hV
    | 4 => exact hV
    | 5 => exact hV
    | _ + 6 => trivial
  · intro a' γ w' hag hC hk hd K hK
    have e0 : a'.tmps.getD 0 undef = .pointer (some ⟨b, o, none⟩) := hag 0 rfl
    go_step
    exact hK _ _ (hC.step 0 _ rfl (Below.refl _ _)) (GE.refl _ _ _ _) rfl
  · intro a' γ w' hag hC hk hd K hK
    have e8 : a'.tmps.getD 8 undef = .pointer (some ⟨b, o, none⟩) := hd.1.2
    go_step
    exact hK _ _ (hC.step 1 _ rfl (Below.refl _ _)) (GE.refl _ _ _ _) rfl
  · intro a' γ w' hag hC hk hd K hK
    have e9 : a'.tmps.getD 9 undef = .pointer (some ⟨b, o, none⟩) := hd.1.2
    go_step
    exact hK _ _ (hC.step 2 _ rfl (Below.refl _ _)) (GE.refl _ _ _ _) rfl
  · intro a' γ w' hag hC hk hd K hK
    have e0 : a'.tmps.getD 0 undef = .pointer (some ⟨b, o, none⟩) := hag 0 rfl
    go_step
    exact hK _ _ (hC.step 3 _ rfl (Below.refl _ _)) (GE.refl _ _ _ _) rfl
  · intro a' γ w' hag hC hk hd K hK
    have e11 : a'.tmps.getD 11 undef = .pointer (some ⟨b, o, none⟩) := hd.1.2
    go_step
    exact hK _ _ (hC.step 4 _ rfl (Below.refl _ _)) (GE.refl _ _ _ _) rfl
  · intro a' γ w' hag hC hk hd K hK
    have e12 : a'.tmps.getD 12 undef = .pointer (some ⟨b, o, none⟩) := hd.1.2
    go_step
    exact hK _ _ (hC.step 5 _ rfl (Below.refl _ _)) (GE.refl _ _ _ _) rfl
  · intro γ u w' hC hgh hall
    obtain ⟨u0, u1, u2, u3, u4, u5, _⟩ := hall
    have u0 : u 0 = .pointer (some ⟨b, o, none⟩) := u0
    have u1 : u 1 = .pointer (some ⟨b, o, none⟩) := u1
    have u2 : u 2 = .pointer (some ⟨b, o, none⟩) := u2
    have u3 : u 3 = .pointer (some ⟨b, o, none⟩) := u3
    have u4 : u 4 = .pointer (some ⟨b, o, none⟩) := u4
    have u5 : u 5 = .pointer (some ⟨b, o, none⟩) := u5
    simp only [fillR, List.take_succ_cons, List.take_zero, Act.put, List.setIfInBounds_toArray, List.set_cons_succ, List.set_cons_zero, Nat.zero_add, Nat.reduceAdd, u0, u1, u2, u3, u4, u5]
    clear u0 u1 u2 u3 u4 u5
    have HC := Lib.hid hC.below
    have hx2 := H1.out.on HC.out
    clear hC
    go_wp2_with fail
    refine (neg_any hx2.num.slot hx2.num).mono ?_
    rintro e w3 ⟨rfl, h3, h4⟩
    have HT : Hid (Touch w w3 b o 4) := H2.out.trans ((Touch.of_below HC.out b o 4).trans (h4.mono (Nat.le_refl _) (by omega)))
    have HR : Hid (RatAt w3 b o (-x)) := by
      obtain ⟨k1, k2, dd, k3, k4⟩ := hx2
      refine ⟨k1.touch h4, by rw [Rat.neg_num]; exact h3, dd, k3.touch k2.slot h4 (.inr (.inr (Nat.le_refl _))), by rw [Rat.neg_den]; exact k4⟩
    clear h3 h4 hx2
    go_wp2
    go_ret
    exact ⟨rfl, HR.out, HT.out⟩
end Go.Proofs.YtaenedjanckaiaaGreat
