/- The reference of layer 2: cut, made, Of. -/
import Derived.Test.YtaenedjanckaiaaGreatNb
namespace Go.Proofs.YtaenedjanckaiaaGreat
set_option linter.unnecessarySimpa false
set_option linter.unusedVariables false
set_option linter.unusedSimpArgs false
open Go.RowKit

set_option maxRecDepth 100000 in
theorem rcut_any {w : World} {A : Option Addr} {n cap : Nat} {xs : List Nat} (h : Words w (.slice A n cap) xs) :
    Calls Tryz.prog 124 #[.slice A n cap] w fun e w' => e = .returned (.slice A (trim xs).length cap) ∧ w = w' := by
  have hl := h.len.1
  have hb := h.2.1
  have hcap := h.len.2
  have HX := Lib.hid h
  have HL := Lib.hid hl
  have hbn : n ≤ 17179869184 := by omega
  clear h hb hl
  go_enter Tryz.func124, Tryz.ntmps124
  go_wp2
  go_loop [3] (fun i => ∃ k : Nat, k ≤ n ∧ i = .int .i64 (k : Int) ∧ Hid (trim (xs.take k) = trim xs)) (fun i => (intOf i).toNat)
  case atStart => exact ⟨n, Nat.le_refl _, rfl, by rw [Hid, List.take_of_length_le (by rw [HL.out]; exact Nat.le_refl _)]⟩
  case round =>
    obtain ⟨k, hk, rfl, HT⟩ := hrel
    by_cases hk0 : 0 < k
    · obtain ⟨b, o, rfl, hall⟩ := HX.out.open_ (by omega)
      have hc := hall (k - 1) (by have := HL.out; omega)
      obtain ⟨x, hx⟩ : ∃ x, x = xs.getD (k - 1) 0 := ⟨_, rfl⟩
      replace hc : w.cell? ⟨b, o + (k - 1), none⟩ = some (.int .u32 (x : Int)) := by rw [hx]; exact hc
      have hk1 : (k : Int) - 1 = ((k - 1 : Nat) : Int) := by omega
      have HXX := Lib.hid hx
      have hkl : k - 1 < n := by omega
      clear hall hx
      by_cases hx0 : x = 0
      · subst hx0
        have HT2 := Lib.hid (trim_take_pred xs k hk0 (by rw [← HL.out]; exact hk) HXX.out.symm)
        go_wp2
        go_round
        case rel => exact ⟨k - 1, by omega, by go_num, by rw [Hid, HT2.out]; exact HT.out⟩
        case measure => simp [intOf]; omega
      · have hq : ((x : Int) == 0) = false := by rw [beq_eq_false_iff_ne]; omega
        have HT2 := Lib.hid (trim_take_done xs k hk0 (by rw [← HL.out]; exact hk) (by rw [← HXX.out]; exact hx0))
        clear hx0
        go_wp2
        go_ret
        refine ⟨?_, rfl⟩
        rw [← HT.out, HT2.out]
        rfl
    · obtain rfl : k = 0 := by omega
      have HT2 : Hid ((trim xs).length = 0) := by rw [Hid, ← HT.out]; rfl
      go_wp2
      go_ret
      refine ⟨?_, rfl⟩
      rw [HT2.out]
      rfl

theorem made_byte {N k : Nat} (hk : 0 < k) (hN : N < 256 ^ k) : (N / 256 ^ (k - 1) % 256 = 0 → N < 256 ^ (k - 1)) ∧ (N / 256 ^ (k - 1) % 256 ≠ 0 → (led N).length = k) := by
  obtain ⟨j, rfl⟩ : ∃ j, k = j + 1 := ⟨k - 1, by omega⟩
  rw [Nat.add_sub_cancel]
  have hP : 0 < 256 ^ j := Nat.pow_pos (by decide)
  have h1 : N / 256 ^ j < 256 := Nat.div_lt_of_lt_mul (by rw [Nat.pow_succ] at hN; exact hN)
  rw [Nat.mod_eq_of_lt h1]
  constructor
  · intro h
    rcases Nat.lt_or_ge N (256 ^ j) with h2 | h2
    · exact h2
    · have := Nat.div_pos h2 hP
      omega
  · intro h
    have h2 : 256 ^ j ≤ N := by
      rcases Nat.lt_or_ge N (256 ^ j) with h2 | h2
      · exact absurd (Nat.div_eq_of_lt h2) h
      · exact h2
    have h3 := led_len_le N (j + 1) hN
    have h4 := led_lt N
    have h5 := (Nat.pow_lt_pow_iff_right (by decide : 1 < 256)).1 (Nat.lt_of_le_of_lt h2 h4)
    omega
theorem wholeV_sg {neg : Bool} {N : Nat} (h : N ≠ 0) : wholeV (sg neg N) = .agg #[.bool neg, .string (strN (led N).reverse)] := by
  unfold wholeV sg
  cases neg
  · simp only [Bool.false_eq_true, if_false, Int.natAbs_natCast]
    rw [show decide ((N : Int) < 0) = false by simp]
    rfl
  · simp only [if_true, Int.natAbs_neg, Int.natAbs_natCast]
    rw [show decide (-(N : Int) < 0) = true by simp; omega]
    rfl
theorem wholeV_sg0 {neg : Bool} : wholeV (sg neg 0) = .agg #[.bool false, .string ⟨#[]⟩] := by
  have h : (if neg = true then -((0 : Nat) : Int) else ((0 : Nat) : Int)) = 0 := by cases neg <;> rfl
  unfold wholeV sg
  rw [h]
  show Value.agg #[.bool false, .string (mag 0)] = _
  rw [mag_zero]
  rfl
set_option maxHeartbeats 1600000 in
set_option maxRecDepth 100000 in
theorem made_any {w : World} {A : Option Addr} {n cap : Nat} {xs : List Nat} (neg : Bool) (h : Words w (.slice A n cap) xs) (hn : n ≤ 4294967296) :
    Calls Tryz.prog 89 #[.bool neg, .slice A n cap] w fun e w' => e = .returned (wholeV (sg neg (val xs))) ∧ Below w.heap.size w w' := by
  have HB := Lib.hid (below_new w (.cells #[.bool false, .string ⟨#[]⟩] 23))
  have HC := Lib.hid (BoxAt.new w #[.bool false, .string ⟨#[]⟩] 23)
  have HX := Lib.hid (h.below HB.out)
  have HZ := Lib.hid (size_alloc w (.cells #[.bool false, .string ⟨#[]⟩] 23))
  obtain ⟨N, hN⟩ : ∃ N, N = val xs := ⟨_, rfl⟩
  have HNN := Lib.hid hN
  have hdl : trim xs = dig N := by rw [hN]; exact (dig_val xs h.1).symm
  have HD := Lib.hid hdl
  obtain ⟨l, hl⟩ : ∃ l, l = (dig N).length := ⟨_, rfl⟩
  have HL := Lib.hid hl
  have hln : l ≤ n := by rw [hl, ← hdl, h.len.1]; exact trim_length_le xs
  clear h hN hdl hl
  go_enter Tryz.func89, Tryz.ntmps89
  go_wp2_with fail
  refine (rcut_any HX.out).mono ?_
  rintro e w1 ⟨rfl, rfl⟩
  have hw := HX.out.trim_
  rw [HD.out] at hw ⊢
  rw [← HL.out] at hw ⊢
  have HW := Lib.hid hw
  clear hw
  by_cases hl0 : l = 0
  · subst hl0
    have hN0 : N = 0 := (dig_nil_iff N).1 (List.eq_nil_of_length_eq_zero HL.out.symm)
    have HN0 := Lib.hid hN0
    have hp0 := HC.out.cell 0 _ rfl
    have hp1 := HC.out.cell 1 _ rfl
    have hf := HC.out.frozen
    clear hN0
    go_wp2
    have hk := (HC.out.set 0 (.bool false)).set 1 (.string ⟨#[]⟩)
    have k0 := hk.cell 0 _ rfl
    have k1 := hk.cell 1 _ rfl
    exact bodyPost_ret (v := .agg #[.bool false, .string ⟨#[]⟩]) (by simp [results, Tryz.results89, go_sem, k0, k1]) rfl ⟨by rw [← HNN.out, HN0.out, wholeV_sg0], by first | exact HB.out | exact (HB.out.setCell (Nat.le_refl _) _).setCell (Nat.le_refl _) _⟩
  · have hl00 : ((l : Int) == 0) = false := by rw [beq_eq_false_iff_ne]; omega
    have HNP : Hid (N ≠ 0) := fun e => hl0 (by rw [HL.out, e, dig_zero]; rfl)
    clear hl0
    go_wp2
    go_loop [5] (fun i => ∃ k : Nat, k ≤ 4 * l ∧ i = .int .i64 (k : Int) ∧ Hid (N < 256 ^ k)) (fun i => (intOf i).toNat)
    case atStart =>
      refine ⟨4 * l, Nat.le_refl _, by go_num, ?_⟩
      have := dig_lt N
      rw [← HL.out, p32] at this
      rw [Hid, p256, show 8 * (4 * l) = 32 * l by omega]
      exact this
    case round =>
      obtain ⟨k, hk, rfl, hNk⟩ := hrel
      have hk0 : 0 < k := by
        rcases Nat.eq_zero_or_pos k with h | h
        · subst h
          have h1 := hNk.out
          have h2 := HNP.out
          simp at h1
          exact absurd h1 h2
        · exact h
      obtain ⟨b, o, rfl, hall⟩ := HW.out.open_ (by omega)
      obtain ⟨q, hq⟩ : ∃ q, q = (k - 1) / 4 := ⟨_, rfl⟩
      obtain ⟨r, hr⟩ : ∃ r, r = (k - 1) % 4 := ⟨_, rfl⟩
      obtain ⟨s, hs⟩ : ∃ s, s = (k - 1) % 4 * 8 := ⟨_, rfl⟩
      have hc := hall q (by omega)
      obtain ⟨x, hx'⟩ : ∃ x, x = N / 4294967296 ^ q % 4294967296 := ⟨_, rfl⟩
      have hx32 : x < 4294967296 := by rw [hx']; exact Nat.mod_lt _ (by decide)
      obtain ⟨y, hy⟩ : ∃ y, y = x / 2 ^ s := ⟨_, rfl⟩
      have hsh : (x : Int) / 2 ^ s = (y : Int) := by rw [hy, Int.natCast_ediv]; simp
      have hyb : y < 4294967296 := by rw [hy]; exact Nat.lt_of_le_of_lt (Nat.div_le_self _ _) hx32
      have hbyte : y % 256 = N / 256 ^ (k - 1) % 256 := by rw [hy, hx', hq, hs]; exact byte_word N (k - 1)
      have HMB := Lib.hid (made_byte hk0 hNk.out)
      rw [← hbyte] at HMB
      have hki : (k : Int) - 1 = ((k - 1 : Nat) : Int) := by omega
      have hqi : ((k - 1 : Nat) : Int) / 4 = (q : Int) := by omega
      have hri : ((k - 1 : Nat) : Int) % 4 = (r : Int) := by omega
      have hsi : 8 * (r : Int) = (s : Int) := by omega
      have hs24 : s ≤ 24 := by omega
      have hql : q < l := by omega
      have hc2 : (w.alloc (.cells #[.bool false, .string ⟨#[]⟩] 23)).cell? ⟨b, o + q, none⟩ = some (.int .u32 (x : Int)) := by rw [hx', ← dig_getD]; exact hc
      clear hall hc hx' hy hbyte hq hr hs
      by_cases hy0 : y % 256 = 0
      · have hyi : (((y : Int) % 256) == 0) = true := by rw [beq_iff_eq]; omega
        have HK1 := Lib.hid (HMB.out.1 hy0)
        clear hy0
        go_wp2
        go_round
        case rel => exact ⟨k - 1, by omega, by go_num, HK1.out⟩
        case measure => simp [intOf]; omega
      · have hyi : (((y : Int) % 256) == 0) = false := by rw [beq_eq_false_iff_ne]; omega
        have HM := Lib.hid (HMB.out.2 hy0)
        clear hy0
        go_wp2_with (at_make; refine wpList_make_bytes rfl _ _ rfl _ _ _ _ k k rfl rfl (by omega) (by omega) (Nat.le_refl _) (by omega) ?_)
        intro w2 hbuf hb2 hz2
        have HZ2 := Lib.hid hz2
        have HCC := Lib.hid HC
        clear hz2 hyi hsh hqi hri hsi hki hyb hx32 hql hc2
        obtain ⟨m, hm⟩ : ∃ m, m = k := ⟨_, rfl⟩
        have HSZ : Hid (w.heap.size ≤ (w.alloc (.cells #[.bool false, .string ⟨#[]⟩] 23)).heap.size) := HB.out.size
        go_wp2
        go_loopw [7] (fun i wr => ∃ (j : Nat), j ≤ k ∧ i = .int .i64 (j : Int) ∧ BBuf wr (w.heap.size + 1) (List.replicate (k - j) 0 ++ (led N).reverse.drop (k - j)) ∧ Below (w.heap.size + 1) (w.alloc (.cells #[.bool false, .string ⟨#[]⟩] 23)) wr) (fun i _ => k - (intOf i).toNat)
        case atStart =>
          exact ⟨0, by omega, rfl, by rw [Nat.sub_zero, List.drop_of_length_le (by rw [List.length_reverse, HM.out]; exact Nat.le_refl _), List.append_nil]; first | exact hbuf | (rw [HZ.out] at hbuf; exact hbuf), by first | exact hb2 | (rw [HZ.out] at hb2; exact hb2)⟩
        case round =>
          obtain ⟨j, hj, rfl, hbuf', hb'⟩ := hrel
          have hblt := hbuf'.lt
          clear hbuf hb2 HZ2
          by_cases hj0 : j < k
          · have hw3 := HW.out.below (w' := wr) (by rw [HZ.out]; exact hb')
            obtain ⟨b3, o3, e3, hall⟩ := hw3.open_ (by omega)
            cases e3
            obtain ⟨q, hq⟩ : ∃ q, q = j / 4 := ⟨_, rfl⟩
            obtain ⟨r, hr⟩ : ∃ r, r = j % 4 := ⟨_, rfl⟩
            obtain ⟨s, hs⟩ : ∃ s, s = j % 4 * 8 := ⟨_, rfl⟩
            have hc := hall q (by omega)
            obtain ⟨x, hx'⟩ : ∃ x, x = N / 4294967296 ^ q % 4294967296 := ⟨_, rfl⟩
            have hx32 : x < 4294967296 := by rw [hx']; exact Nat.mod_lt _ (by decide)
            replace hc : wr.cell? ⟨b, o + q, none⟩ = some (.int .u32 (x : Int)) := by rw [hx', ← dig_getD]; exact hc
            obtain ⟨y, hy⟩ : ∃ y, y = x / 2 ^ s := ⟨_, rfl⟩
            have hsh : (x : Int) / 2 ^ s = (y : Int) := by rw [hy, Int.natCast_ediv]; simp
            have hyb : y < 4294967296 := by rw [hy]; exact Nat.lt_of_le_of_lt (Nat.div_le_self _ _) hx32
            have hbyte : y % 256 = N / 256 ^ j % 256 := by rw [hy, hx', hq, hs]; exact byte_word N j
            have HBY := Lib.hid hbyte
            have hqi : (j : Int) / 4 = (q : Int) := by omega
            have hri : (j : Int) % 4 = (r : Int) := by omega
            have hsi : 8 * (r : Int) = (s : Int) := by omega
            have hs24 : s ≤ 24 := by omega
            have hql : q < l := by omega
            have hkj : ((k : Int) - 1 - (j : Int)) = ((k - 1 - j : Nat) : Int) := by omega
            have hc2 := hbuf'.cell (k - 1 - j) (by rw [List.length_append, List.length_replicate]; omega)
            have hf := hbuf'.frozen (k - 1 - j)
            have HBF := Lib.hid (hbuf'.set (k - 1 - j) (y % 256) _ (Nat.mod_lt _ (by decide)) rfl)
            have HH := Lib.hid hb'
            clear hall hw3 hx' hy hbyte hbuf' hb' hq hr hs
            go_wp2
            go_roundw
            case rel =>
              refine ⟨j + 1, by omega, by go_num, ?_, HH.out.setCell (Nat.le_refl _) _⟩
              have h := HBF.out
              have h2 := led_back N k j HM.out hj0
              rw [← HBY.out] at h2
              rw [h2] at h
              exact h
            case measure => simp [intOf]; omega
          · obtain rfl : j = k := by omega
            rw [Nat.sub_self, List.replicate_zero, List.nil_append, List.drop_zero] at hbuf'
            have hcv := string_of_byt (hbuf'.byt (n := j) (cap := j) (by rw [List.length_reverse]; exact HM.out))
            have HCW : Hid (BoxAt wr w.heap.size #[.bool false, .string ⟨#[]⟩] 23) := by
              have := HC.out
              unfold BoxAt at this
              unfold Hid BoxAt
              rw [hb'.block _ (by omega)]
              exact this
            have HH := Lib.hid (HB.out.trans (hb'.mono (Nat.le_succ _)))
            have hp0 := HCW.out.cell 0 _ rfl
            have hp1 := HCW.out.cell 1 _ rfl
            have hf := HCW.out.frozen
            clear hbuf' hb'
            go_wp2
            have hk := (HCW.out.set 0 (.bool neg)).set 1 (.string (strN (led N).reverse))
            have k0 := hk.cell 0 _ rfl
            have k1 := hk.cell 1 _ rfl
            exact bodyPost_ret (v := .agg #[.bool neg, .string (strN (led N).reverse)]) (by simp [results, Tryz.results89, go_sem, k0, k1]) rfl ⟨by rw [← HNN.out, wholeV_sg HNP.out], (HH.out.setCell (Nat.le_refl _) _).setCell (Nat.le_refl _) _⟩
end Go.Proofs.YtaenedjanckaiaaGreat
