/- Package big: fractions: Mul, Quo, Add, Sub, Cmp. -/
import Derived.Test.YtaenedjanckaiaaGreatRat
import Derived.Test.YtaenedjanckaiaaGreatRegH
namespace Go.Proofs.YtaenedjanckaiaaGreat
set_option linter.unnecessarySimpa false
set_option linter.unusedVariables false
set_option linter.unusedSimpArgs false
open Go.RowKit

/-- How many words a number has. -/
def wl (n : Int) : Nat := (dig n.natAbs).length
theorem wl_mul (n m : Int) : wl (n * m) ≤ wl n + wl m := by
  unfold wl
  refine dig_len_le _ _ ?_
  rw [Int.natAbs_mul, Nat.pow_add]
  exact Nat.mul_lt_mul'' (dig_lt _) (dig_lt _)
theorem wl_add (n m : Int) : wl (n + m) ≤ max (wl n) (wl m) + 1 := by
  unfold wl
  refine dig_len_le _ _ ?_
  have h1 := dig_lt n.natAbs
  have h2 := dig_lt m.natAbs
  have h3 : 4294967296 ^ (dig n.natAbs).length ≤ 4294967296 ^ (max (dig n.natAbs).length (dig m.natAbs).length) := Nat.pow_le_pow_right (by decide) (Nat.le_max_left _ _)
  have h4 : 4294967296 ^ (dig m.natAbs).length ≤ 4294967296 ^ (max (dig n.natAbs).length (dig m.natAbs).length) := Nat.pow_le_pow_right (by decide) (Nat.le_max_right _ _)
  have h5 := Int.natAbs_add_le n m
  rw [Nat.pow_succ]
  generalize 4294967296 ^ (max (dig n.natAbs).length (dig m.natAbs).length) = M at *
  omega
theorem wl_neg (n : Int) : wl (-n) = wl n := by simp [wl]
theorem wl_sub (n m : Int) : wl (n - m) ≤ max (wl n) (wl m) + 1 := by
  have := wl_add n (-m)
  rw [wl_neg] at this
  rwa [Int.sub_eq_add_neg]
/-- A fraction that may be worked with. -/
def OkR (q : Rat) : Prop := wl q.num ≤ 1073741824 ∧ wl q.den ≤ 1073741824
theorem OkR.num {q : Rat} (h : OkR q) : Okn q.num := Nat.le_trans h.1 (by decide)
theorem OkR.den {q : Rat} (h : OkR q) : Okn q.den := Nat.le_trans h.2 (by decide)
theorem okn_mul {n m : Int} (h : wl n ≤ 1073741824) (k : wl m ≤ 1073741824) : Okn (n * m) := by
  have := wl_mul n m
  show wl _ ≤ _
  omega
theorem okn_add {n m a b : Int} (h : wl n ≤ 1073741824) (k : wl m ≤ 1073741824) (h' : wl a ≤ 1073741824) (k' : wl b ≤ 1073741824) : Okn (n * m + a * b) := by
  have h1 := wl_mul n m
  have h2 := wl_mul a b
  have h3 := wl_add (n * m) (a * b)
  show wl _ ≤ _
  omega
theorem okn_sub {n m a b : Int} (h : wl n ≤ 1073741824) (k : wl m ≤ 1073741824) (h' : wl a ≤ 1073741824) (k' : wl b ≤ 1073741824) : Okn (n * m - a * b) := by
  have h1 := wl_mul n m
  have h2 := wl_mul a b
  have h3 := wl_sub (n * m) (a * b)
  show wl _ ≤ _
  omega
theorem RatAt.num {w : World} {b o : Nat} {q : Rat} (h : RatAt w b o q) : IntAt w b o q.num := h.2.1

theorem den_ne (x : Rat) : (x.den : Int) ≠ 0 := by have := x.den_pos; omega
theorem divInt_mul (x y : Rat) : Rat.divInt (x.num * y.num) ((x.den : Int) * y.den) = x * y := by
  rw [← Rat.divInt_mul_divInt, Rat.num_divInt_den, Rat.num_divInt_den]

set_option maxHeartbeats 1600000 in
set_option maxRecDepth 100000 in
theorem rMul_any {w : World} {b o c p d q : Nat} {x y : Rat} (hz : Slot w b o 4) (hx : RatAt w c p x) (hy : RatAt w d q y) (kx : OkR x) (ky : OkR y) :
    Calls Tryz.prog 51 #[.pointer (some ⟨b, o, none⟩), .pointer (some ⟨c, p, none⟩), .pointer (some ⟨d, q, none⟩)] w fun e w' => e = .returned (.pointer (some ⟨b, o, none⟩)) ∧ RatAt w' b o (x * y) ∧ Touch w w' b o 4 := by
  have HX := Lib.hid hx
  have HY := Lib.hid hy
  have HZ := Lib.hid hz
  have KX := Lib.hid kx
  have KY := Lib.hid ky
  clear hx hy hz kx ky
  go_enter Tryz.func51, Tryz.ntmps51
  go_wp2
  refine wp_region_ghost 15 (GC w.heap.size w [1, 9, 11, 13]) (fun γ wq _ wr => GE w.heap.size [(1, 8), (9, 14)] γ wq wr) (fun i γ wq v => match i with
      | 0 => v = .pointer (some ⟨b, o, none⟩)
      | 1 => VA w.heap.size wq v
      | 2 => v = .pointer (some ⟨c, p, none⟩)
      | 3 => v = .pointer (some ⟨c, p, none⟩)
      | 4 => v = .pointer (some ⟨c, p, none⟩)
      | 5 => v = .pointer (some ⟨d, q, none⟩)
      | 6 => v = .pointer (some ⟨d, q, none⟩)
      | 7 => v = .pointer (some ⟨d, q, none⟩)
      | 8 => VM w.heap.size 1 (x.num * y.num) γ wq v
      | 9 => VA w.heap.size wq v
      | 10 => v = .pointer (some ⟨c, p, none⟩)
      | 11 => VD ((x).den : Int) wq v
      | 12 => v = .pointer (some ⟨d, q, none⟩)
      | 13 => VD ((y).den : Int) wq v
      | 14 => VM w.heap.size 9 ((x.den : Int) * y.den) γ wq v
      | _ => True) (by kernel_rfl) (by kernel_rfl) (by kernel_rfl) (GC.start _ (Nat.le_refl _)) ?_ ⟨?_, ?_, ?_, ?_, ?_, ?_, ?_, ?_, ?_, ?_, ?_, ?_, ?_, ?_, ?_, trivial⟩ ?_
  · intro i γ w1 k xq w2 v hC hC2 hE hk hi hV
    match i with
    | 0 => exact hV
    | 1 => exact VA.stable hV hE
    | 2 => exact hV
    | 3 => exact hV
    | 4 => exact hV
    | 5 => exact hV
    | 6 => exact hV
    | 7 => exact hV
    | 8 => exact VM.stable 8 k hV hC hE hk hi rfl
    | 9 => exact VA.stable hV hE
    | 10 => exact hV
    | 11 => exact VD.stable 11 hV hC hE hi rfl
    | 12 => exact hV
    | 13 => exact VD.stable 13 hV hC hE hi rfl
    | 14 => exact VM.stable 14 k hV hC hE hk hi rfl
    | _ + 15 => trivial
  · intro a' γ w' hag hC hk hd K hK
    have e0 : a'.tmps.getD 0 undef = .pointer (some ⟨b, o, none⟩) := hag 0 rfl
    go_step
    exact hK _ _ (hC.step 0 _ rfl (Below.refl _ _)) (GE.refl _ _ _ _) rfl
  · intro a' γ w' hag hC hk hd K hK
    have hb : Below w'.heap.size w' (w'.alloc (.cells #[.bool false, .slice none 0 0] 83)) := (Below.refl _ _).alloc (Nat.le_refl _) _
    have HK := Lib.hid (hK (.pointer (some ⟨w'.heap.size, 0, none⟩)) _ (hC.own 1 _ _ hb (IntAt.new w').lt (.inr (Nat.le_refl _))) (GE.below _ _ hb) ⟨_, rfl, hC.size, (IntAt.new w').slot⟩)
    clear hb hK hC
    go_step
    exact HK.out
  · intro a' γ w' hag hC hk hd K hK
    have e1 : a'.tmps.getD 1 undef = .pointer (some ⟨c, p, none⟩) := hag 1 rfl
    go_step
    exact hK _ _ (hC.step 2 _ rfl (Below.refl _ _)) (GE.refl _ _ _ _) rfl
  · intro a' γ w' hag hC hk hd K hK
    have e9 : a'.tmps.getD 9 undef = .pointer (some ⟨c, p, none⟩) := hd.1.2
    go_step
    exact hK _ _ (hC.step 3 _ rfl (Below.refl _ _)) (GE.refl _ _ _ _) rfl
  · intro a' γ w' hag hC hk hd K hK
    have e10 : a'.tmps.getD 10 undef = .pointer (some ⟨c, p, none⟩) := hd.1.2
    go_step
    exact hK _ _ (hC.step 4 _ rfl (Below.refl _ _)) (GE.refl _ _ _ _) rfl
  · intro a' γ w' hag hC hk hd K hK
    have e2 : a'.tmps.getD 2 undef = .pointer (some ⟨d, q, none⟩) := hag 2 rfl
    go_step
    exact hK _ _ (hC.step 5 _ rfl (Below.refl _ _)) (GE.refl _ _ _ _) rfl
  · intro a' γ w' hag hC hk hd K hK
    have e12 : a'.tmps.getD 12 undef = .pointer (some ⟨d, q, none⟩) := hd.1.2
    go_step
    exact hK _ _ (hC.step 6 _ rfl (Below.refl _ _)) (GE.refl _ _ _ _) rfl
  · intro a' γ w' hag hC hk hd K hK
    have e13 : a'.tmps.getD 13 undef = .pointer (some ⟨d, q, none⟩) := hd.1.2
    go_step
    exact hK _ _ (hC.step 7 _ rfl (Below.refl _ _)) (GE.refl _ _ _ _) rfl
  · intro a' γ w' hag hC hk hd K hK
    have q8 : VA w.heap.size w' (a'.tmps.getD 8 undef) := hd.1.2
    have gg8 : γ 1 = some (a'.tmps.getD 8 undef) := hd.1.1
    obtain ⟨g8, e8, hb8, hs8⟩ := q8
    rw [e8] at gg8
    have e8 : a'.tmps.getD 8 undef = .pointer (some ⟨g8, 0, none⟩) := e8
    have e11 : a'.tmps.getD 11 undef = .pointer (some ⟨c, p, none⟩) := hd.2.1.2
    have e14 : a'.tmps.getD 14 undef = .pointer (some ⟨d, q, none⟩) := hd.2.2.1.2
    have hx := Lib.hid (mul_any hs8 (HX.out.on hC.below).num (HY.out.on hC.below).num KX.out.num KY.out.num)
    go_step
    refine hx.out.mono ?_
    rintro e w2 ⟨rfl, h1, h2⟩
    exact hK _ _ (hC.step 8 _ rfl (h2.below hb8 hC.size)) (GE.write 1 8 rfl hs8 h2 gg8 hk hb8) ⟨_, rfl, upd_some gg8 hk, hb8, h1⟩
  · intro a' γ w' hag hC hk hd K hK
    have hb : Below w'.heap.size w' (w'.alloc (.cells #[.bool false, .slice none 0 0] 83)) := (Below.refl _ _).alloc (Nat.le_refl _) _
    have HK := Lib.hid (hK (.pointer (some ⟨w'.heap.size, 0, none⟩)) _ (hC.own 9 _ _ hb (IntAt.new w').lt (.inr (Nat.le_refl _))) (GE.below _ _ hb) ⟨_, rfl, hC.size, (IntAt.new w').slot⟩)
    clear hb hK hC
    go_step
    exact HK.out
  · intro a' γ w' hag hC hk hd K hK
    have e1 : a'.tmps.getD 1 undef = .pointer (some ⟨c, p, none⟩) := hag 1 rfl
    go_step
    exact hK _ _ (hC.step 10 _ rfl (Below.refl _ _)) (GE.refl _ _ _ _) rfl
  · intro a' γ w' hag hC hk hd K hK
    have e17 : a'.tmps.getD 17 undef = .pointer (some ⟨c, p, none⟩) := hd.1.2
    have hx := HX.out.on hC.below
    go_step
    refine (den_any hx).mono ?_
    rintro e w2 ⟨g, j, rfl, h1, h2, h3⟩
    exact hK _ _ (hC.own 11 _ _ h2 h1.lt (h3.imp (fun e => by rw [e]; exact HX.out.lt) id)) (GE.below _ _ h2) ⟨_, _, rfl, h1⟩
  · intro a' γ w' hag hC hk hd K hK
    have e2 : a'.tmps.getD 2 undef = .pointer (some ⟨d, q, none⟩) := hag 2 rfl
    go_step
    exact hK _ _ (hC.step 12 _ rfl (Below.refl _ _)) (GE.refl _ _ _ _) rfl
  · intro a' γ w' hag hC hk hd K hK
    have e19 : a'.tmps.getD 19 undef = .pointer (some ⟨d, q, none⟩) := hd.1.2
    have hx := HY.out.on hC.below
    go_step
    refine (den_any hx).mono ?_
    rintro e w2 ⟨g, j, rfl, h1, h2, h3⟩
    exact hK _ _ (hC.own 13 _ _ h2 h1.lt (h3.imp (fun e => by rw [e]; exact HY.out.lt) id)) (GE.below _ _ h2) ⟨_, _, rfl, h1⟩
  · intro a' γ w' hag hC hk hd K hK
    have q16 : VA w.heap.size w' (a'.tmps.getD 16 undef) := hd.1.2
    have gg16 : γ 9 = some (a'.tmps.getD 16 undef) := hd.1.1
    obtain ⟨g16, e16, hb16, hs16⟩ := q16
    rw [e16] at gg16
    have e16 : a'.tmps.getD 16 undef = .pointer (some ⟨g16, 0, none⟩) := e16
    have q18 : VD ((x).den : Int) w' (a'.tmps.getD 18 undef) := hd.2.1.2
    have gg18 : γ 11 = some (a'.tmps.getD 18 undef) := hd.2.1.1
    obtain ⟨g18, i18, e18, h18⟩ := q18
    rw [e18] at gg18
    have e18 : a'.tmps.getD 18 undef = .pointer (some ⟨g18, i18, none⟩) := e18
    have q20 : VD ((y).den : Int) w' (a'.tmps.getD 20 undef) := hd.2.2.1.2
    have gg20 : γ 13 = some (a'.tmps.getD 20 undef) := hd.2.2.1.1
    obtain ⟨g20, i20, e20, h20⟩ := q20
    rw [e20] at gg20
    have e20 : a'.tmps.getD 20 undef = .pointer (some ⟨g20, i20, none⟩) := e20
    have hx := Lib.hid (mul_any hs16 h18 h20 KX.out.den KY.out.den)
    go_step
    refine hx.out.mono ?_
    rintro e w2 ⟨rfl, h1, h2⟩
    exact hK _ _ (hC.step 14 _ rfl (h2.below hb16 hC.size)) (GE.write 9 14 rfl hs16 h2 gg16 hk hb16) ⟨_, rfl, upd_some gg16 hk, hb16, h1⟩
  · intro γ u w' hC hgh hall
    obtain ⟨u0, u1, u2, u3, u4, u5, u6, u7, u8, u9, u10, u11, u12, u13, u14, _⟩ := hall
    have u0 : u 0 = .pointer (some ⟨b, o, none⟩) := u0
    have u2 : u 2 = .pointer (some ⟨c, p, none⟩) := u2
    have u3 : u 3 = .pointer (some ⟨c, p, none⟩) := u3
    have u4 : u 4 = .pointer (some ⟨c, p, none⟩) := u4
    have u5 : u 5 = .pointer (some ⟨d, q, none⟩) := u5
    have u6 : u 6 = .pointer (some ⟨d, q, none⟩) := u6
    have u7 : u 7 = .pointer (some ⟨d, q, none⟩) := u7
    obtain ⟨g15, eu8, ga15, hb15, h15⟩ := u8
    have u8 : u 8 = .pointer (some ⟨g15, 0, none⟩) := eu8
    have u10 : u 10 = .pointer (some ⟨c, p, none⟩) := u10
    have u12 : u 12 = .pointer (some ⟨d, q, none⟩) := u12
    obtain ⟨g21, eu14, ga21, hb21, h21⟩ := u14
    have u14 : u 14 = .pointer (some ⟨g21, 0, none⟩) := eu14
    simp only [fillR, List.take_succ_cons, List.take_zero, Act.put, List.setIfInBounds_toArray, List.set_cons_succ, List.set_cons_zero, Nat.zero_add, Nat.reduceAdd, u0, u2, u3, u4, u5, u6, u7, u8, u10, u12, u14]
    clear u0 u2 u3 u4 u5 u6 u7 u8 u10 u12 u14
    have HC := Lib.hid hC
    have H15 := Lib.hid h15
    have H21 := Lib.hid h21
    clear hC h15 h21 ga15 ga21 hb15 hb21
    go_wp2_with fail
    refine (SetFrac_any (HZ.out.on HC.out.below) H15.out H21.out (Int.mul_ne_zero (den_ne x) (den_ne y)) (okn_mul KX.out.1 KY.out.1) (okn_mul KX.out.2 KY.out.2)).mono ?_
    rintro e w3 ⟨rfl, h1, h2⟩
    rw [divInt_mul] at h1
    have H1 := Lib.hid h1
    have HT := Lib.hid ((Touch.of_below HC.out.below b o 4).trans h2)
    clear h1 h2
    go_wp2
    go_ret
    exact ⟨rfl, H1.out, HT.out⟩
theorem divInt_quo (x y : Rat) : Rat.divInt (x.num * (y.den : Int)) ((x.den : Int) * y.num) = x / y := by
  rw [← Rat.divInt_mul_divInt, Rat.num_divInt_den, ← Rat.inv_def, Rat.div_def]

set_option maxHeartbeats 1600000 in
set_option maxRecDepth 100000 in
theorem rQuo_any {w : World} {b o c p d q : Nat} {x y : Rat} (hz : Slot w b o 4) (hx : RatAt w c p x) (hy : RatAt w d q y) (kx : OkR x) (ky : OkR y) (h0 : y ≠ 0) :
    Calls Tryz.prog 52 #[.pointer (some ⟨b, o, none⟩), .pointer (some ⟨c, p, none⟩), .pointer (some ⟨d, q, none⟩)] w fun e w' => e = .returned (.pointer (some ⟨b, o, none⟩)) ∧ RatAt w' b o (x / y) ∧ Touch w w' b o 4 := by
  have HX := Lib.hid hx
  have HY := Lib.hid hy
  have HZ := Lib.hid hz
  have KX := Lib.hid kx
  have KY := Lib.hid ky
  have HN0 : Hid (y.num ≠ 0) := fun h => h0 (Rat.num_eq_zero.1 h)
  clear hx hy hz kx ky h0
  go_enter Tryz.func52, Tryz.ntmps52
  go_wp2
  refine wp_region_ghost 15 (GC w.heap.size w [1, 6, 8, 10]) (fun γ wq _ wr => GE w.heap.size [(1, 7), (8, 14)] γ wq wr) (fun i γ wq v => match i with
      | 0 => v = .pointer (some ⟨b, o, none⟩)
      | 1 => VA w.heap.size wq v
      | 2 => v = .pointer (some ⟨c, p, none⟩)
      | 3 => v = .pointer (some ⟨c, p, none⟩)
      | 4 => v = .pointer (some ⟨c, p, none⟩)
      | 5 => v = .pointer (some ⟨d, q, none⟩)
      | 6 => VD ((y).den : Int) wq v
      | 7 => VM w.heap.size 1 (x.num * (y.den : Int)) γ wq v
      | 8 => VA w.heap.size wq v
      | 9 => v = .pointer (some ⟨c, p, none⟩)
      | 10 => VD ((x).den : Int) wq v
      | 11 => v = .pointer (some ⟨d, q, none⟩)
      | 12 => v = .pointer (some ⟨d, q, none⟩)
      | 13 => v = .pointer (some ⟨d, q, none⟩)
      | 14 => VM w.heap.size 8 ((x.den : Int) * y.num) γ wq v
      | _ => True) (by kernel_rfl) (by kernel_rfl) (by kernel_rfl) (GC.start _ (Nat.le_refl _)) ?_ ⟨?_, ?_, ?_, ?_, ?_, ?_, ?_, ?_, ?_, ?_, ?_, ?_, ?_, ?_, ?_, trivial⟩ ?_
  · intro i γ w1 k xq w2 v hC hC2 hE hk hi hV
    match i with
    | 0 => exact hV
    | 1 => exact VA.stable hV hE
    | 2 => exact hV
    | 3 => exact hV
    | 4 => exact hV
    | 5 => exact hV
    | 6 => exact VD.stable 6 hV hC hE hi rfl
    | 7 => exact VM.stable 7 k hV hC hE hk hi rfl
    | 8 => exact VA.stable hV hE
    | 9 => exact hV
    | 10 => exact VD.stable 10 hV hC hE hi rfl
    | 11 => exact hV
    | 12 => exact hV
    | 13 => exact hV
    | 14 => exact VM.stable 14 k hV hC hE hk hi rfl
    | _ + 15 => trivial
  · intro a' γ w' hag hC hk hd K hK
    have e0 : a'.tmps.getD 0 undef = .pointer (some ⟨b, o, none⟩) := hag 0 rfl
    go_step
    exact hK _ _ (hC.step 0 _ rfl (Below.refl _ _)) (GE.refl _ _ _ _) rfl
  · intro a' γ w' hag hC hk hd K hK
    have hb : Below w'.heap.size w' (w'.alloc (.cells #[.bool false, .slice none 0 0] 83)) := (Below.refl _ _).alloc (Nat.le_refl _) _
    have HK := Lib.hid (hK (.pointer (some ⟨w'.heap.size, 0, none⟩)) _ (hC.own 1 _ _ hb (IntAt.new w').lt (.inr (Nat.le_refl _))) (GE.below _ _ hb) ⟨_, rfl, hC.size, (IntAt.new w').slot⟩)
    clear hb hK hC
    go_step
    exact HK.out
  · intro a' γ w' hag hC hk hd K hK
    have e1 : a'.tmps.getD 1 undef = .pointer (some ⟨c, p, none⟩) := hag 1 rfl
    go_step
    exact hK _ _ (hC.step 2 _ rfl (Below.refl _ _)) (GE.refl _ _ _ _) rfl
  · intro a' γ w' hag hC hk hd K hK
    have e9 : a'.tmps.getD 9 undef = .pointer (some ⟨c, p, none⟩) := hd.1.2
    go_step
    exact hK _ _ (hC.step 3 _ rfl (Below.refl _ _)) (GE.refl _ _ _ _) rfl
  · intro a' γ w' hag hC hk hd K hK
    have e10 : a'.tmps.getD 10 undef = .pointer (some ⟨c, p, none⟩) := hd.1.2
    go_step
    exact hK _ _ (hC.step 4 _ rfl (Below.refl _ _)) (GE.refl _ _ _ _) rfl
  · intro a' γ w' hag hC hk hd K hK
    have e2 : a'.tmps.getD 2 undef = .pointer (some ⟨d, q, none⟩) := hag 2 rfl
    go_step
    exact hK _ _ (hC.step 5 _ rfl (Below.refl _ _)) (GE.refl _ _ _ _) rfl
  · intro a' γ w' hag hC hk hd K hK
    have e12 : a'.tmps.getD 12 undef = .pointer (some ⟨d, q, none⟩) := hd.1.2
    have hx := HY.out.on hC.below
    go_step
    refine (den_any hx).mono ?_
    rintro e w2 ⟨g, j, rfl, h1, h2, h3⟩
    exact hK _ _ (hC.own 6 _ _ h2 h1.lt (h3.imp (fun e => by rw [e]; exact HY.out.lt) id)) (GE.below _ _ h2) ⟨_, _, rfl, h1⟩
  · intro a' γ w' hag hC hk hd K hK
    have q8 : VA w.heap.size w' (a'.tmps.getD 8 undef) := hd.1.2
    have gg8 : γ 1 = some (a'.tmps.getD 8 undef) := hd.1.1
    obtain ⟨g8, e8, hb8, hs8⟩ := q8
    rw [e8] at gg8
    have e8 : a'.tmps.getD 8 undef = .pointer (some ⟨g8, 0, none⟩) := e8
    have e11 : a'.tmps.getD 11 undef = .pointer (some ⟨c, p, none⟩) := hd.2.1.2
    have q13 : VD ((y).den : Int) w' (a'.tmps.getD 13 undef) := hd.2.2.1.2
    have gg13 : γ 6 = some (a'.tmps.getD 13 undef) := hd.2.2.1.1
    obtain ⟨g13, i13, e13, h13⟩ := q13
    rw [e13] at gg13
    have e13 : a'.tmps.getD 13 undef = .pointer (some ⟨g13, i13, none⟩) := e13
    have hx := Lib.hid (mul_any hs8 (HX.out.on hC.below).num h13 KX.out.num KY.out.den)
    go_step
    refine hx.out.mono ?_
    rintro e w2 ⟨rfl, h1, h2⟩
    exact hK _ _ (hC.step 7 _ rfl (h2.below hb8 hC.size)) (GE.write 1 7 rfl hs8 h2 gg8 hk hb8) ⟨_, rfl, upd_some gg8 hk, hb8, h1⟩
  · intro a' γ w' hag hC hk hd K hK
    have hb : Below w'.heap.size w' (w'.alloc (.cells #[.bool false, .slice none 0 0] 83)) := (Below.refl _ _).alloc (Nat.le_refl _) _
    have HK := Lib.hid (hK (.pointer (some ⟨w'.heap.size, 0, none⟩)) _ (hC.own 8 _ _ hb (IntAt.new w').lt (.inr (Nat.le_refl _))) (GE.below _ _ hb) ⟨_, rfl, hC.size, (IntAt.new w').slot⟩)
    clear hb hK hC
    go_step
    exact HK.out
  · intro a' γ w' hag hC hk hd K hK
    have e1 : a'.tmps.getD 1 undef = .pointer (some ⟨c, p, none⟩) := hag 1 rfl
    go_step
    exact hK _ _ (hC.step 9 _ rfl (Below.refl _ _)) (GE.refl _ _ _ _) rfl
  · intro a' γ w' hag hC hk hd K hK
    have e16 : a'.tmps.getD 16 undef = .pointer (some ⟨c, p, none⟩) := hd.1.2
    have hx := HX.out.on hC.below
    go_step
    refine (den_any hx).mono ?_
    rintro e w2 ⟨g, j, rfl, h1, h2, h3⟩
    exact hK _ _ (hC.own 10 _ _ h2 h1.lt (h3.imp (fun e => by rw [e]; exact HX.out.lt) id)) (GE.below _ _ h2) ⟨_, _, rfl, h1⟩
  · intro a' γ w' hag hC hk hd K hK
    have e2 : a'.tmps.getD 2 undef = .pointer (some ⟨d, q, none⟩) := hag 2 rfl
    go_step
    exact hK _ _ (hC.step 11 _ rfl (Below.refl _ _)) (GE.refl _ _ _ _) rfl
  · intro a' γ w' hag hC hk hd K hK
    have e18 : a'.tmps.getD 18 undef = .pointer (some ⟨d, q, none⟩) := hd.1.2
    go_step
    exact hK _ _ (hC.step 12 _ rfl (Below.refl _ _)) (GE.refl _ _ _ _) rfl
  · intro a' γ w' hag hC hk hd K hK
    have e19 : a'.tmps.getD 19 undef = .pointer (some ⟨d, q, none⟩) := hd.1.2
    go_step
    exact hK _ _ (hC.step 13 _ rfl (Below.refl _ _)) (GE.refl _ _ _ _) rfl
  · intro a' γ w' hag hC hk hd K hK
    have q15 : VA w.heap.size w' (a'.tmps.getD 15 undef) := hd.1.2
    have gg15 : γ 8 = some (a'.tmps.getD 15 undef) := hd.1.1
    obtain ⟨g15, e15, hb15, hs15⟩ := q15
    rw [e15] at gg15
    have e15 : a'.tmps.getD 15 undef = .pointer (some ⟨g15, 0, none⟩) := e15
    have q17 : VD ((x).den : Int) w' (a'.tmps.getD 17 undef) := hd.2.1.2
    have gg17 : γ 10 = some (a'.tmps.getD 17 undef) := hd.2.1.1
    obtain ⟨g17, i17, e17, h17⟩ := q17
    rw [e17] at gg17
    have e17 : a'.tmps.getD 17 undef = .pointer (some ⟨g17, i17, none⟩) := e17
    have e20 : a'.tmps.getD 20 undef = .pointer (some ⟨d, q, none⟩) := hd.2.2.1.2
    have hx := Lib.hid (mul_any hs15 h17 (HY.out.on hC.below).num KX.out.den KY.out.num)
    go_step
    refine hx.out.mono ?_
    rintro e w2 ⟨rfl, h1, h2⟩
    exact hK _ _ (hC.step 14 _ rfl (h2.below hb15 hC.size)) (GE.write 8 14 rfl hs15 h2 gg15 hk hb15) ⟨_, rfl, upd_some gg15 hk, hb15, h1⟩
  · intro γ u w' hC hgh hall
    obtain ⟨u0, u1, u2, u3, u4, u5, u6, u7, u8, u9, u10, u11, u12, u13, u14, _⟩ := hall
    have u0 : u 0 = .pointer (some ⟨b, o, none⟩) := u0
    have u2 : u 2 = .pointer (some ⟨c, p, none⟩) := u2
    have u3 : u 3 = .pointer (some ⟨c, p, none⟩) := u3
    have u4 : u 4 = .pointer (some ⟨c, p, none⟩) := u4
    have u5 : u 5 = .pointer (some ⟨d, q, none⟩) := u5
    obtain ⟨g14, eu7, ga14, hb14, h14⟩ := u7
    have u7 : u 7 = .pointer (some ⟨g14, 0, none⟩) := eu7
    have u9 : u 9 = .pointer (some ⟨c, p, none⟩) := u9
    have u11 : u 11 = .pointer (some ⟨d, q, none⟩) := u11
    have u12 : u 12 = .pointer (some ⟨d, q, none⟩) := u12
    have u13 : u 13 = .pointer (some ⟨d, q, none⟩) := u13
    obtain ⟨g21, eu14, ga21, hb21, h21⟩ := u14
    have u14 : u 14 = .pointer (some ⟨g21, 0, none⟩) := eu14
    simp only [fillR, List.take_succ_cons, List.take_zero, Act.put, List.setIfInBounds_toArray, List.set_cons_succ, List.set_cons_zero, Nat.zero_add, Nat.reduceAdd, u0, u2, u3, u4, u5, u7, u9, u11, u12, u13, u14]
    clear u0 u2 u3 u4 u5 u7 u9 u11 u12 u13 u14
    have HC := Lib.hid hC
    have H14 := Lib.hid h14
    have H21 := Lib.hid h21
    clear hC h14 h21 ga14 ga21 hb14 hb21
    go_wp2_with fail
    refine (SetFrac_any (HZ.out.on HC.out.below) H14.out H21.out (Int.mul_ne_zero (den_ne x) HN0.out) (okn_mul KX.out.1 KY.out.2) (okn_mul KX.out.2 KY.out.1)).mono ?_
    rintro e w3 ⟨rfl, h1, h2⟩
    rw [divInt_quo] at h1
    have H1 := Lib.hid h1
    have HT := Lib.hid ((Touch.of_below HC.out.below b o 4).trans h2)
    clear h1 h2
    go_wp2
    go_ret
    exact ⟨rfl, H1.out, HT.out⟩
theorem divInt_Add (x y : Rat) : Rat.divInt (x.num * (y.den : Int) + y.num * (x.den : Int)) ((x.den : Int) * (y.den : Int)) = x + y := by
  rw [Rat.add_def', ← Int.natCast_mul]; rfl

set_option maxHeartbeats 1600000 in
set_option maxRecDepth 100000 in
theorem rAdd_any {w : World} {b o c p d q : Nat} {x y : Rat} (hz : Slot w b o 4) (hx : RatAt w c p x) (hy : RatAt w d q y) (kx : OkR x) (ky : OkR y) :
    Calls Tryz.prog 49 #[.pointer (some ⟨b, o, none⟩), .pointer (some ⟨c, p, none⟩), .pointer (some ⟨d, q, none⟩)] w fun e w' => e = .returned (.pointer (some ⟨b, o, none⟩)) ∧ RatAt w' b o (x + y) ∧ Touch w w' b o 4 := by
  have HX := Lib.hid hx
  have HY := Lib.hid hy
  have HZ := Lib.hid hz
  have KX := Lib.hid kx
  have KY := Lib.hid ky
  clear hx hy hz kx ky
  go_enter Tryz.func49, Tryz.ntmps49
  go_wp2
  refine wp_region_ghost 6 (GC w.heap.size w [0, 5]) (fun γ wq _ wr => GE w.heap.size [] γ wq wr) (fun i γ wq v => match i with
      | 0 => VA w.heap.size wq v
      | 1 => v = .pointer (some ⟨c, p, none⟩)
      | 2 => v = .pointer (some ⟨c, p, none⟩)
      | 3 => v = .pointer (some ⟨c, p, none⟩)
      | 4 => v = .pointer (some ⟨d, q, none⟩)
      | 5 => VD ((y).den : Int) wq v
      | _ => True) (by kernel_rfl) (by kernel_rfl) (by kernel_rfl) (GC.start _ (Nat.le_refl _)) ?_ ⟨?_, ?_, ?_, ?_, ?_, ?_, trivial⟩ ?_
  · intro i γ w1 k xq w2 v hC hC2 hE hk hi hV
    match i with
    | 0 => exact VA.stable hV hE
    | 1 => exact hV
    | 2 => exact hV
    | 3 => exact hV
    | 4 => exact hV
    | 5 => exact VD.stable 5 hV hC hE hi rfl
    | _ + 6 => trivial
  · intro a' γ w' hag hC hk hd K hK
    have hb : Below w'.heap.size w' (w'.alloc (.cells #[.bool false, .slice none 0 0] 83)) := (Below.refl _ _).alloc (Nat.le_refl _) _
    have HK := Lib.hid (hK (.pointer (some ⟨w'.heap.size, 0, none⟩)) _ (hC.own 0 _ _ hb (IntAt.new w').lt (.inr (Nat.le_refl _))) (GE.below _ _ hb) ⟨_, rfl, hC.size, (IntAt.new w').slot⟩)
    clear hb hK hC
    go_step
    exact HK.out
  · intro a' γ w' hag hC hk hd K hK
    have e1 : a'.tmps.getD 1 undef = .pointer (some ⟨c, p, none⟩) := hag 1 rfl
    go_step
    exact hK _ _ (hC.step 1 _ rfl (Below.refl _ _)) (GE.refl _ _ _ _) rfl
  · intro a' γ w' hag hC hk hd K hK
    have e9 : a'.tmps.getD 9 undef = .pointer (some ⟨c, p, none⟩) := hd.1.2
    go_step
    exact hK _ _ (hC.step 2 _ rfl (Below.refl _ _)) (GE.refl _ _ _ _) rfl
  · intro a' γ w' hag hC hk hd K hK
    have e10 : a'.tmps.getD 10 undef = .pointer (some ⟨c, p, none⟩) := hd.1.2
    go_step
    exact hK _ _ (hC.step 3 _ rfl (Below.refl _ _)) (GE.refl _ _ _ _) rfl
  · intro a' γ w' hag hC hk hd K hK
    have e2 : a'.tmps.getD 2 undef = .pointer (some ⟨d, q, none⟩) := hag 2 rfl
    go_step
    exact hK _ _ (hC.step 4 _ rfl (Below.refl _ _)) (GE.refl _ _ _ _) rfl
  · intro a' γ w' hag hC hk hd K hK
    have e12 : a'.tmps.getD 12 undef = .pointer (some ⟨d, q, none⟩) := hd.1.2
    have hx := HY.out.on hC.below
    go_step
    refine (den_any hx).mono ?_
    rintro e w2 ⟨g, j, rfl, h1, h2, h3⟩
    exact hK _ _ (hC.own 5 _ _ h2 h1.lt (h3.imp (fun e => by rw [e]; exact HY.out.lt) id)) (GE.below _ _ h2) ⟨_, _, rfl, h1⟩
  · intro γ u w' hC hgh hall
    obtain ⟨u0, u1, u2, u3, u4, u5, _⟩ := hall
    obtain ⟨g8, eu0, hb8, hs8⟩ := u0
    have u0 : u 0 = .pointer (some ⟨g8, 0, none⟩) := eu0
    have u1 : u 1 = .pointer (some ⟨c, p, none⟩) := u1
    have u2 : u 2 = .pointer (some ⟨c, p, none⟩) := u2
    have u3 : u 3 = .pointer (some ⟨c, p, none⟩) := u3
    have u4 : u 4 = .pointer (some ⟨d, q, none⟩) := u4
    obtain ⟨g13, i13, eu5, h13⟩ := u5
    have u5 : u 5 = .pointer (some ⟨g13, i13, none⟩) := eu5
    simp only [fillR, List.take_succ_cons, List.take_zero, Act.put, List.setIfInBounds_toArray, List.set_cons_succ, List.set_cons_zero, Nat.zero_add, Nat.reduceAdd, u0, u1, u2, u3, u4, u5]
    clear u0 u1 u2 u3 u4 u5
    have HC := Lib.hid hC.below
    have HB8 := Lib.hid hb8
    have HS8 := Lib.hid hs8
    have H13 := Lib.hid h13
    have hx1 := HX.out.on HC.out
    clear hC hb8 hs8 h13
    go_wp2_with fail
    refine (mul_any HS8.out hx1.num H13.out KX.out.num KY.out.den).mono ?_
    rintro e w1 ⟨rfl, h1, h2⟩
    have HB1 : Hid (Below w.heap.size w w1) := HC.out.trans (h2.below HB8.out HC.out.size)
    have H1 := Lib.hid h1
    clear h1 h2 hx1 H13 HS8 HC
    have HX1 := Lib.hid (HX.out.on HB1.out)
    have HY1 := Lib.hid (HY.out.on HB1.out)
    go_wp2
    refine wp_region_ghost 9 (GC w1.heap.size w1 [2, 7]) (fun γ wq _ wr => GE w1.heap.size [(2, 8)] γ wq wr) (fun i γ wq v => match i with
        | 0 => v = .pointer (some ⟨g8, 0, none⟩)
        | 1 => v = .pointer (some ⟨g8, 0, none⟩)
        | 2 => VA w1.heap.size wq v
        | 3 => v = .pointer (some ⟨d, q, none⟩)
        | 4 => v = .pointer (some ⟨d, q, none⟩)
        | 5 => v = .pointer (some ⟨d, q, none⟩)
        | 6 => v = .pointer (some ⟨c, p, none⟩)
        | 7 => VD ((x).den : Int) wq v
        | 8 => VM w1.heap.size 2 (y.num * (x.den : Int)) γ wq v
        | _ => True) (by kernel_rfl) (by kernel_rfl) (by kernel_rfl) (GC.start _ (Nat.le_refl _)) ?_ ⟨?_, ?_, ?_, ?_, ?_, ?_, ?_, ?_, ?_, trivial⟩ ?_
    · intro i γ w1 k xq w2 v hC hC2 hE hk hi hV
      match i with
      | 0 => exact hV
      | 1 => exact hV
      | 2 => exact VA.stable hV hE
      | 3 => exact hV
      | 4 => exact hV
      | 5 => exact hV
      | 6 => exact hV
      | 7 => exact VD.stable 7 hV hC hE hi rfl
      | 8 => exact VM.stable 8 k hV hC hE hk hi rfl
      | _ + 9 => trivial
    · intro a' γ w' hag hC hk hd K hK
      have e7 : a'.tmps.getD 7 undef = .pointer (some ⟨g8, 0, none⟩) := hag 7 rfl
      go_step
      exact hK _ _ (hC.step 0 _ rfl (Below.refl _ _)) (GE.refl _ _ _ _) rfl
    · intro a' γ w' hag hC hk hd K hK
      have e7 : a'.tmps.getD 7 undef = .pointer (some ⟨g8, 0, none⟩) := hag 7 rfl
      go_step
      exact hK _ _ (hC.step 1 _ rfl (Below.refl _ _)) (GE.refl _ _ _ _) rfl
    · intro a' γ w' hag hC hk hd K hK
      have hb : Below w'.heap.size w' (w'.alloc (.cells #[.bool false, .slice none 0 0] 83)) := (Below.refl _ _).alloc (Nat.le_refl _) _
      have HK := Lib.hid (hK (.pointer (some ⟨w'.heap.size, 0, none⟩)) _ (hC.own 2 _ _ hb (IntAt.new w').lt (.inr (Nat.le_refl _))) (GE.below _ _ hb) ⟨_, rfl, hC.size, (IntAt.new w').slot⟩)
      clear hb hK hC
      go_step
      exact HK.out
    · intro a' γ w' hag hC hk hd K hK
      have e2 : a'.tmps.getD 2 undef = .pointer (some ⟨d, q, none⟩) := hag 2 rfl
      go_step
      exact hK _ _ (hC.step 3 _ rfl (Below.refl _ _)) (GE.refl _ _ _ _) rfl
    · intro a' γ w' hag hC hk hd K hK
      have e18 : a'.tmps.getD 18 undef = .pointer (some ⟨d, q, none⟩) := hd.1.2
      go_step
      exact hK _ _ (hC.step 4 _ rfl (Below.refl _ _)) (GE.refl _ _ _ _) rfl
    · intro a' γ w' hag hC hk hd K hK
      have e19 : a'.tmps.getD 19 undef = .pointer (some ⟨d, q, none⟩) := hd.1.2
      go_step
      exact hK _ _ (hC.step 5 _ rfl (Below.refl _ _)) (GE.refl _ _ _ _) rfl
    · intro a' γ w' hag hC hk hd K hK
      have e1 : a'.tmps.getD 1 undef = .pointer (some ⟨c, p, none⟩) := hag 1 rfl
      go_step
      exact hK _ _ (hC.step 6 _ rfl (Below.refl _ _)) (GE.refl _ _ _ _) rfl
    · intro a' γ w' hag hC hk hd K hK
      have e21 : a'.tmps.getD 21 undef = .pointer (some ⟨c, p, none⟩) := hd.1.2
      have hx := HX1.out.on hC.below
      go_step
      refine (den_any hx).mono ?_
      rintro e w2 ⟨g, j, rfl, h1, h2, h3⟩
      exact hK _ _ (hC.own 7 _ _ h2 h1.lt (h3.imp (fun e => by rw [e]; exact HX1.out.lt) id)) (GE.below _ _ h2) ⟨_, _, rfl, h1⟩
    · intro a' γ w' hag hC hk hd K hK
      have q17 : VA w1.heap.size w' (a'.tmps.getD 17 undef) := hd.1.2
      have gg17 : γ 2 = some (a'.tmps.getD 17 undef) := hd.1.1
      obtain ⟨g17, e17, hb17, hs17⟩ := q17
      rw [e17] at gg17
      have e17 : a'.tmps.getD 17 undef = .pointer (some ⟨g17, 0, none⟩) := e17
      have e20 : a'.tmps.getD 20 undef = .pointer (some ⟨d, q, none⟩) := hd.2.1.2
      have q22 : VD ((x).den : Int) w' (a'.tmps.getD 22 undef) := hd.2.2.1.2
      have gg22 : γ 7 = some (a'.tmps.getD 22 undef) := hd.2.2.1.1
      obtain ⟨g22, i22, e22, h22⟩ := q22
      rw [e22] at gg22
      have e22 : a'.tmps.getD 22 undef = .pointer (some ⟨g22, i22, none⟩) := e22
      have hx := Lib.hid (mul_any hs17 (HY1.out.on hC.below).num h22 KY.out.num KX.out.den)
      go_step
      refine hx.out.mono ?_
      rintro e w2 ⟨rfl, h1, h2⟩
      exact hK _ _ (hC.step 8 _ rfl (h2.below hb17 hC.size)) (GE.write 2 8 rfl hs17 h2 gg17 hk hb17) ⟨_, rfl, upd_some gg17 hk, hb17, h1⟩
    · intro γ u w' hC hgh hall
      obtain ⟨u0, u1, u2, u3, u4, u5, u6, u7, u8, _⟩ := hall
      have u0 : u 0 = .pointer (some ⟨g8, 0, none⟩) := u0
      have u1 : u 1 = .pointer (some ⟨g8, 0, none⟩) := u1
      have u3 : u 3 = .pointer (some ⟨d, q, none⟩) := u3
      have u4 : u 4 = .pointer (some ⟨d, q, none⟩) := u4
      have u5 : u 5 = .pointer (some ⟨d, q, none⟩) := u5
      have u6 : u 6 = .pointer (some ⟨c, p, none⟩) := u6
      obtain ⟨g23, eu8, ga23, hb23, h23⟩ := u8
      have u8 : u 8 = .pointer (some ⟨g23, 0, none⟩) := eu8
      simp only [fillR, List.take_succ_cons, List.take_zero, Act.put, List.setIfInBounds_toArray, List.set_cons_succ, List.set_cons_zero, Nat.zero_add, Nat.reduceAdd, u0, u1, u3, u4, u5, u6, u8]
      clear u0 u1 u3 u4 u5 u6 u8
      have HC2 := Lib.hid hC.below
      have H23 := Lib.hid h23
      have h1' := H1.out.on HC2.out
      clear hC h23 ga23 hb23
      go_wp2_with fail
      refine (Add_any h1'.slot h1' H23.out (okn_mul KX.out.1 KY.out.2) (okn_mul KY.out.1 KX.out.2)).mono ?_
      rintro e w3 ⟨rfl, h2, h3⟩
      have HB3 : Hid (Below w.heap.size w w3) := (HB1.out.trans (HC2.out.mono HB1.out.size)).trans (h3.below HB8.out (Nat.le_trans HB1.out.size HC2.out.size))
      have HN := Lib.hid h2
      clear h1' h2 h3 H23 HC2 HX1 HY1 HB1 H1
      have ha : Below w3.heap.size w3 (w3.alloc (.cells #[.bool false, .slice none 0 0] 83)) := (Below.refl _ _).alloc (Nat.le_refl _) _
      have hx3 := (HX.out.on HB3.out).on ha
      go_wp2_with fail
      refine (den_any hx3).mono ?_
      rintro e w4 ⟨gx, ix, rfl, h1, h2, h3⟩
      have hb4 := ha.trans (h2.mono ha.size)
      have HB4 := Lib.hid hb4
      have HDX := Lib.hid h1
      have HNX : Hid (gx ≠ w3.heap.size) := by
        have h4 := ha.size
        have h5 := HX.out.lt
        have h6 := HB3.out.size
        have h7 : (w3.alloc (.cells #[.bool false, .slice none 0 0] 83)).heap.size = w3.heap.size + 1 := by simp [World.alloc_eq]
        unfold Hid
        omega
      have HS : Hid (Slot w4 w3.heap.size 0 2) := (IntAt.new w3).slot.on h2
      clear h1 h2 h3 hx3 ha hb4
      have hy4 := (HY.out.on HB3.out).on HB4.out
      go_wp2_with fail
      refine (den_any hy4).mono ?_
      rintro e w5 ⟨gy, iy, rfl, h1, h2, h3⟩
      have hs5 := HS.out.on h2
      have hd5 := HDX.out.on h2
      have HB5 : Hid (Below w3.heap.size w3 w5) := HB4.out.trans (h2.mono HB4.out.size)
      have HDY := Lib.hid h1
      clear h1 h2 h3 hy4
      go_wp2_with fail
      refine (mul_any hs5 hd5 HDY.out KX.out.den KY.out.den).mono ?_
      rintro e w6 ⟨rfl, h1, h2⟩
      have HB6 : Hid (Below w3.heap.size w3 w6) := HB5.out.trans (h2.below (Nat.le_refl _) HB5.out.size)
      have HD := Lib.hid h1
      clear h1 h2 hs5 hd5 HDX HDY HS HB4 HB5 HNX
      have hz6 := (HZ.out.on HB3.out).on HB6.out
      have hn6 := HN.out.on HB6.out
      go_wp2_with fail
      refine (SetFrac_any hz6 hn6 HD.out (Int.mul_ne_zero (den_ne x) (den_ne y)) (okn_add KX.out.1 KY.out.2 KY.out.1 KX.out.2) (okn_mul KX.out.2 KY.out.2)).mono ?_
      rintro e w7 ⟨rfl, h1, h2⟩
      rw [divInt_Add] at h1
      have H1 := Lib.hid h1
      have HT := Lib.hid ((Touch.of_below (HB3.out.trans (HB6.out.mono HB3.out.size)) b o 4).trans h2)
      clear h1 h2 hz6 hn6
      go_wp2
      go_ret
      exact ⟨rfl, H1.out, HT.out⟩

theorem divInt_Sub (x y : Rat) : Rat.divInt (x.num * (y.den : Int) - y.num * (x.den : Int)) ((x.den : Int) * (y.den : Int)) = x - y := by
  rw [Rat.sub_def', ← Int.natCast_mul]; rfl

set_option maxHeartbeats 1600000 in
set_option maxRecDepth 100000 in
theorem rSub_any {w : World} {b o c p d q : Nat} {x y : Rat} (hz : Slot w b o 4) (hx : RatAt w c p x) (hy : RatAt w d q y) (kx : OkR x) (ky : OkR y) :
    Calls Tryz.prog 50 #[.pointer (some ⟨b, o, none⟩), .pointer (some ⟨c, p, none⟩), .pointer (some ⟨d, q, none⟩)] w fun e w' => e = .returned (.pointer (some ⟨b, o, none⟩)) ∧ RatAt w' b o (x - y) ∧ Touch w w' b o 4 := by
  have HX := Lib.hid hx
  have HY := Lib.hid hy
  have HZ := Lib.hid hz
  have KX := Lib.hid kx
  have KY := Lib.hid ky
  clear hx hy hz kx ky
  go_enter Tryz.func50, Tryz.ntmps50
  go_wp2
  refine wp_region_ghost 6 (GC w.heap.size w [0, 5]) (fun γ wq _ wr => GE w.heap.size [] γ wq wr) (fun i γ wq v => match i with
      | 0 => VA w.heap.size wq v
      | 1 => v = .pointer (some ⟨c, p, none⟩)
      | 2 => v = .pointer (some ⟨c, p, none⟩)
      | 3 => v = .pointer (some ⟨c, p, none⟩)
      | 4 => v = .pointer (some ⟨d, q, none⟩)
      | 5 => VD ((y).den : Int) wq v
      | _ => True) (by kernel_rfl) (by kernel_rfl) (by kernel_rfl) (GC.start _ (Nat.le_refl _)) ?_ ⟨?_, ?_, ?_, ?_, ?_, ?_, trivial⟩ ?_
  · intro i γ w1 k xq w2 v hC hC2 hE hk hi hV
    match i with
    | 0 => exact VA.stable hV hE
    | 1 => exact hV
    | 2 => exact hV
    | 3 => exact hV
    | 4 => exact hV
    | 5 => exact VD.stable 5 hV hC hE hi rfl
    | _ + 6 => trivial
  · intro a' γ w' hag hC hk hd K hK
    have hb : Below w'.heap.size w' (w'.alloc (.cells #[.bool false, .slice none 0 0] 83)) := (Below.refl _ _).alloc (Nat.le_refl _) _
    have HK := Lib.hid (hK (.pointer (some ⟨w'.heap.size, 0, none⟩)) _ (hC.own 0 _ _ hb (IntAt.new w').lt (.inr (Nat.le_refl _))) (GE.below _ _ hb) ⟨_, rfl, hC.size, (IntAt.new w').slot⟩)
    clear hb hK hC
    go_step
    exact HK.out
  · intro a' γ w' hag hC hk hd K hK
    have e1 : a'.tmps.getD 1 undef = .pointer (some ⟨c, p, none⟩) := hag 1 rfl
    go_step
    exact hK _ _ (hC.step 1 _ rfl (Below.refl _ _)) (GE.refl _ _ _ _) rfl
  · intro a' γ w' hag hC hk hd K hK
    have e9 : a'.tmps.getD 9 undef = .pointer (some ⟨c, p, none⟩) := hd.1.2
    go_step
    exact hK _ _ (hC.step 2 _ rfl (Below.refl _ _)) (GE.refl _ _ _ _) rfl
  · intro a' γ w' hag hC hk hd K hK
    have e10 : a'.tmps.getD 10 undef = .pointer (some ⟨c, p, none⟩) := hd.1.2
    go_step
    exact hK _ _ (hC.step 3 _ rfl (Below.refl _ _)) (GE.refl _ _ _ _) rfl
  · intro a' γ w' hag hC hk hd K hK
    have e2 : a'.tmps.getD 2 undef = .pointer (some ⟨d, q, none⟩) := hag 2 rfl
    go_step
    exact hK _ _ (hC.step 4 _ rfl (Below.refl _ _)) (GE.refl _ _ _ _) rfl
  · intro a' γ w' hag hC hk hd K hK
    have e12 : a'.tmps.getD 12 undef = .pointer (some ⟨d, q, none⟩) := hd.1.2
    have hx := HY.out.on hC.below
    go_step
    refine (den_any hx).mono ?_
    rintro e w2 ⟨g, j, rfl, h1, h2, h3⟩
    exact hK _ _ (hC.own 5 _ _ h2 h1.lt (h3.imp (fun e => by rw [e]; exact HY.out.lt) id)) (GE.below _ _ h2) ⟨_, _, rfl, h1⟩
  · intro γ u w' hC hgh hall
    obtain ⟨u0, u1, u2, u3, u4, u5, _⟩ := hall
    obtain ⟨g8, eu0, hb8, hs8⟩ := u0
    have u0 : u 0 = .pointer (some ⟨g8, 0, none⟩) := eu0
    have u1 : u 1 = .pointer (some ⟨c, p, none⟩) := u1
    have u2 : u 2 = .pointer (some ⟨c, p, none⟩) := u2
    have u3 : u 3 = .pointer (some ⟨c, p, none⟩) := u3
    have u4 : u 4 = .pointer (some ⟨d, q, none⟩) := u4
    obtain ⟨g13, i13, eu5, h13⟩ := u5
    have u5 : u 5 = .pointer (some ⟨g13, i13, none⟩) := eu5
    simp only [fillR, List.take_succ_cons, List.take_zero, Act.put, List.setIfInBounds_toArray, List.set_cons_succ, List.set_cons_zero, Nat.zero_add, Nat.reduceAdd, u0, u1, u2, u3, u4, u5]
    clear u0 u1 u2 u3 u4 u5
    have HC := Lib.hid hC.below
    have HB8 := Lib.hid hb8
    have HS8 := Lib.hid hs8
    have H13 := Lib.hid h13
    have hx1 := HX.out.on HC.out
    clear hC hb8 hs8 h13
    go_wp2_with fail
    refine (mul_any HS8.out hx1.num H13.out KX.out.num KY.out.den).mono ?_
    rintro e w1 ⟨rfl, h1, h2⟩
    have HB1 : Hid (Below w.heap.size w w1) := HC.out.trans (h2.below HB8.out HC.out.size)
    have H1 := Lib.hid h1
    clear h1 h2 hx1 H13 HS8 HC
    have HX1 := Lib.hid (HX.out.on HB1.out)
    have HY1 := Lib.hid (HY.out.on HB1.out)
    go_wp2
    refine wp_region_ghost 9 (GC w1.heap.size w1 [2, 7]) (fun γ wq _ wr => GE w1.heap.size [(2, 8)] γ wq wr) (fun i γ wq v => match i with
        | 0 => v = .pointer (some ⟨g8, 0, none⟩)
        | 1 => v = .pointer (some ⟨g8, 0, none⟩)
        | 2 => VA w1.heap.size wq v
        | 3 => v = .pointer (some ⟨d, q, none⟩)
        | 4 => v = .pointer (some ⟨d, q, none⟩)
        | 5 => v = .pointer (some ⟨d, q, none⟩)
        | 6 => v = .pointer (some ⟨c, p, none⟩)
        | 7 => VD ((x).den : Int) wq v
        | 8 => VM w1.heap.size 2 (y.num * (x.den : Int)) γ wq v
        | _ => True) (by kernel_rfl) (by kernel_rfl) (by kernel_rfl) (GC.start _ (Nat.le_refl _)) ?_ ⟨?_, ?_, ?_, ?_, ?_, ?_, ?_, ?_, ?_, trivial⟩ ?_
    · intro i γ w1 k xq w2 v hC hC2 hE hk hi hV
      match i with
      | 0 => exact hV
      | 1 => exact hV
      | 2 => exact VA.stable hV hE
      | 3 => exact hV
      | 4 => exact hV
      | 5 => exact hV
      | 6 => exact hV
      | 7 => exact VD.stable 7 hV hC hE hi rfl
      | 8 => exact VM.stable 8 k hV hC hE hk hi rfl
      | _ + 9 => trivial
    · intro a' γ w' hag hC hk hd K hK
      have e7 : a'.tmps.getD 7 undef = .pointer (some ⟨g8, 0, none⟩) := hag 7 rfl
      go_step
      exact hK _ _ (hC.step 0 _ rfl (Below.refl _ _)) (GE.refl _ _ _ _) rfl
    · intro a' γ w' hag hC hk hd K hK
      have e7 : a'.tmps.getD 7 undef = .pointer (some ⟨g8, 0, none⟩) := hag 7 rfl
      go_step
      exact hK _ _ (hC.step 1 _ rfl (Below.refl _ _)) (GE.refl _ _ _ _) rfl
    · intro a' γ w' hag hC hk hd K hK
      have hb : Below w'.heap.size w' (w'.alloc (.cells #[.bool false, .slice none 0 0] 83)) := (Below.refl _ _).alloc (Nat.le_refl _) _
      have HK := Lib.hid (hK (.pointer (some ⟨w'.heap.size, 0, none⟩)) _ (hC.own 2 _ _ hb (IntAt.new w').lt (.inr (Nat.le_refl _))) (GE.below _ _ hb) ⟨_, rfl, hC.size, (IntAt.new w').slot⟩)
      clear hb hK hC
      go_step
      exact HK.out
    · intro a' γ w' hag hC hk hd K hK
      have e2 : a'.tmps.getD 2 undef = .pointer (some ⟨d, q, none⟩) := hag 2 rfl
      go_step
      exact hK _ _ (hC.step 3 _ rfl (Below.refl _ _)) (GE.refl _ _ _ _) rfl
    · intro a' γ w' hag hC hk hd K hK
      have e18 : a'.tmps.getD 18 undef = .pointer (some ⟨d, q, none⟩) := hd.1.2
      go_step
      exact hK _ _ (hC.step 4 _ rfl (Below.refl _ _)) (GE.refl _ _ _ _) rfl
    · intro a' γ w' hag hC hk hd K hK
      have e19 : a'.tmps.getD 19 undef = .pointer (some ⟨d, q, none⟩) := hd.1.2
      go_step
      exact hK _ _ (hC.step 5 _ rfl (Below.refl _ _)) (GE.refl _ _ _ _) rfl
    · intro a' γ w' hag hC hk hd K hK
      have e1 : a'.tmps.getD 1 undef = .pointer (some ⟨c, p, none⟩) := hag 1 rfl
      go_step
      exact hK _ _ (hC.step 6 _ rfl (Below.refl _ _)) (GE.refl _ _ _ _) rfl
    · intro a' γ w' hag hC hk hd K hK
      have e21 : a'.tmps.getD 21 undef = .pointer (some ⟨c, p, none⟩) := hd.1.2
      have hx := HX1.out.on hC.below
      go_step
      refine (den_any hx).mono ?_
      rintro e w2 ⟨g, j, rfl, h1, h2, h3⟩
      exact hK _ _ (hC.own 7 _ _ h2 h1.lt (h3.imp (fun e => by rw [e]; exact HX1.out.lt) id)) (GE.below _ _ h2) ⟨_, _, rfl, h1⟩
    · intro a' γ w' hag hC hk hd K hK
      have q17 : VA w1.heap.size w' (a'.tmps.getD 17 undef) := hd.1.2
      have gg17 : γ 2 = some (a'.tmps.getD 17 undef) := hd.1.1
      obtain ⟨g17, e17, hb17, hs17⟩ := q17
      rw [e17] at gg17
      have e17 : a'.tmps.getD 17 undef = .pointer (some ⟨g17, 0, none⟩) := e17
      have e20 : a'.tmps.getD 20 undef = .pointer (some ⟨d, q, none⟩) := hd.2.1.2
      have q22 : VD ((x).den : Int) w' (a'.tmps.getD 22 undef) := hd.2.2.1.2
      have gg22 : γ 7 = some (a'.tmps.getD 22 undef) := hd.2.2.1.1
      obtain ⟨g22, i22, e22, h22⟩ := q22
      rw [e22] at gg22
      have e22 : a'.tmps.getD 22 undef = .pointer (some ⟨g22, i22, none⟩) := e22
      have hx := Lib.hid (mul_any hs17 (HY1.out.on hC.below).num h22 KY.out.num KX.out.den)
      go_step
      refine hx.out.mono ?_
      rintro e w2 ⟨rfl, h1, h2⟩
      exact hK _ _ (hC.step 8 _ rfl (h2.below hb17 hC.size)) (GE.write 2 8 rfl hs17 h2 gg17 hk hb17) ⟨_, rfl, upd_some gg17 hk, hb17, h1⟩
    · intro γ u w' hC hgh hall
      obtain ⟨u0, u1, u2, u3, u4, u5, u6, u7, u8, _⟩ := hall
      have u0 : u 0 = .pointer (some ⟨g8, 0, none⟩) := u0
      have u1 : u 1 = .pointer (some ⟨g8, 0, none⟩) := u1
      have u3 : u 3 = .pointer (some ⟨d, q, none⟩) := u3
      have u4 : u 4 = .pointer (some ⟨d, q, none⟩) := u4
      have u5 : u 5 = .pointer (some ⟨d, q, none⟩) := u5
      have u6 : u 6 = .pointer (some ⟨c, p, none⟩) := u6
      obtain ⟨g23, eu8, ga23, hb23, h23⟩ := u8
      have u8 : u 8 = .pointer (some ⟨g23, 0, none⟩) := eu8
      simp only [fillR, List.take_succ_cons, List.take_zero, Act.put, List.setIfInBounds_toArray, List.set_cons_succ, List.set_cons_zero, Nat.zero_add, Nat.reduceAdd, u0, u1, u3, u4, u5, u6, u8]
      clear u0 u1 u3 u4 u5 u6 u8
      have HC2 := Lib.hid hC.below
      have H23 := Lib.hid h23
      have h1' := H1.out.on HC2.out
      clear hC h23 ga23 hb23
      go_wp2_with fail
      refine (Sub_any h1'.slot h1' H23.out (okn_mul KX.out.1 KY.out.2) (okn_mul KY.out.1 KX.out.2)).mono ?_
      rintro e w3 ⟨rfl, h2, h3⟩
      have HB3 : Hid (Below w.heap.size w w3) := (HB1.out.trans (HC2.out.mono HB1.out.size)).trans (h3.below HB8.out (Nat.le_trans HB1.out.size HC2.out.size))
      have HN := Lib.hid h2
      clear h1' h2 h3 H23 HC2 HX1 HY1 HB1 H1
      have ha : Below w3.heap.size w3 (w3.alloc (.cells #[.bool false, .slice none 0 0] 83)) := (Below.refl _ _).alloc (Nat.le_refl _) _
      have hx3 := (HX.out.on HB3.out).on ha
      go_wp2_with fail
      refine (den_any hx3).mono ?_
      rintro e w4 ⟨gx, ix, rfl, h1, h2, h3⟩
      have hb4 := ha.trans (h2.mono ha.size)
      have HB4 := Lib.hid hb4
      have HDX := Lib.hid h1
      have HNX : Hid (gx ≠ w3.heap.size) := by
        have h4 := ha.size
        have h5 := HX.out.lt
        have h6 := HB3.out.size
        have h7 : (w3.alloc (.cells #[.bool false, .slice none 0 0] 83)).heap.size = w3.heap.size + 1 := by simp [World.alloc_eq]
        unfold Hid
        omega
      have HS : Hid (Slot w4 w3.heap.size 0 2) := (IntAt.new w3).slot.on h2
      clear h1 h2 h3 hx3 ha hb4
      have hy4 := (HY.out.on HB3.out).on HB4.out
      go_wp2_with fail
      refine (den_any hy4).mono ?_
      rintro e w5 ⟨gy, iy, rfl, h1, h2, h3⟩
      have hs5 := HS.out.on h2
      have hd5 := HDX.out.on h2
      have HB5 : Hid (Below w3.heap.size w3 w5) := HB4.out.trans (h2.mono HB4.out.size)
      have HDY := Lib.hid h1
      clear h1 h2 h3 hy4
      go_wp2_with fail
      refine (mul_any hs5 hd5 HDY.out KX.out.den KY.out.den).mono ?_
      rintro e w6 ⟨rfl, h1, h2⟩
      have HB6 : Hid (Below w3.heap.size w3 w6) := HB5.out.trans (h2.below (Nat.le_refl _) HB5.out.size)
      have HD := Lib.hid h1
      clear h1 h2 hs5 hd5 HDX HDY HS HB4 HB5 HNX
      have hz6 := (HZ.out.on HB3.out).on HB6.out
      have hn6 := HN.out.on HB6.out
      go_wp2_with fail
      refine (SetFrac_any hz6 hn6 HD.out (Int.mul_ne_zero (den_ne x) (den_ne y)) (okn_sub KX.out.1 KY.out.2 KY.out.1 KX.out.2) (okn_mul KX.out.2 KY.out.2)).mono ?_
      rintro e w7 ⟨rfl, h1, h2⟩
      rw [divInt_Sub] at h1
      have H1 := Lib.hid h1
      have HT := Lib.hid ((Touch.of_below (HB3.out.trans (HB6.out.mono HB3.out.size)) b o 4).trans h2)
      clear h1 h2 hz6 hn6
      go_wp2
      go_ret
      exact ⟨rfl, H1.out, HT.out⟩

end Go.Proofs.YtaenedjanckaiaaGreat
