/- Package big: whole numbers: SetBytes, Bytes. -/
import Derived.Test.YtaenedjanckaiaaGreatIntD
namespace Go.Proofs.YtaenedjanckaiaaGreat
set_option linter.unnecessarySimpa false
set_option linter.unusedVariables false
set_option linter.unusedSimpArgs false
open Go.RowKit

/-- A byte more of a number, into its word. -/
theorem byte_into (ls ys : List Nat) (i x q s : Nat) (hw : Wf ls) (hl : i / 4 < ls.length) (hv : val ls = bval (ys.take i)) (hy : B8 ys) (hi : i < ys.length) (hx : ys.getD i 0 = x) (hq : q = i / 4) (hs : s = i % 4 * 8) :
    x < 256 ∧ ls.getD q 0 < 2 ^ s ∧ (ls.getD q 0 ||| x * 2 ^ s) = ls.getD q 0 + x * 2 ^ s ∧ ls.getD q 0 + x * 2 ^ s < 4294967296 ∧ val (ls.set q (ls.getD q 0 + x * 2 ^ s)) = bval (ys.take (i + 1)) := by
  have h1 : x < 256 := by rw [← hx]; exact hy.getD i
  have h2 := bval_lt (ys.take i) (hy.take i)
  rw [List.length_take, Nat.min_eq_left (by omega), ← hv, p256] at h2
  have hs4 : s ≤ 24 := by omega
  have hqs : 32 * q + s = 8 * i := by omega
  have h3 : ls.getD q 0 < 2 ^ s := by
    rw [val_getD ls hw q]
    refine Nat.lt_of_le_of_lt (Nat.mod_le _ _) ?_
    rw [p32]
    refine Nat.div_lt_of_lt_mul ?_
    rw [← Nat.pow_add, hqs]
    exact h2
  have h4 := or_add (ls.getD q 0) x s h3
  have h5 : ls.getD q 0 + x * 2 ^ s < 4294967296 := by
    have h6 : x * 2 ^ s ≤ 255 * 2 ^ s := Nat.mul_le_mul_right _ (by omega)
    have h7 : 2 ^ s ≤ 2 ^ 24 := Nat.pow_le_pow_right (by decide) hs4
    omega
  refine ⟨h1, h3, h4, h5, ?_⟩
  have h8 := val_set ls q (ls.getD q 0 + x * 2 ^ s) (by omega)
  rw [Nat.mul_add] at h8
  have h9 : val (ls.set q (ls.getD q 0 + x * 2 ^ s)) = val ls + 4294967296 ^ q * (x * 2 ^ s) := by omega
  rw [h9, hv, bval_take_step, hx, p32, p256, ← hqs, Nat.pow_add]
  congr 1
  rw [Nat.mul_comm x, Nat.mul_assoc]

set_option maxRecDepth 100000 in
theorem SetBytes_any {w : World} {b o h m cap : Nat} {xs : List Nat} (hz : Slot w b o 2) (hv : Byt w (.slice (some ⟨h, 0, none⟩) m cap) xs) (hm : m ≤ 4294967296) :
    Calls Tryz.prog 108 #[.pointer (some ⟨b, o, none⟩), .slice (some ⟨h, 0, none⟩) m cap] w fun e w' => e = .returned (.pointer (some ⟨b, o, none⟩)) ∧ IntAt w' b o (bval xs.reverse) ∧ Touch w w' b o 2 := by
  obtain ⟨hlen, h8, hlt, _⟩ := hv.open_
  obtain ⟨ys, hys⟩ : ∃ ys, ys = xs.reverse := ⟨_, rfl⟩
  rw [← hys]
  have HY8 : Hid (B8 ys) := by rw [hys]; exact h8.reverse
  have HYL : Hid (ys.length = m) := by rw [hys, Hid, List.length_reverse, hlen]
  have HYX : Hid (∀ i, i < m → xs.getD (m - 1 - i) 0 = ys.getD i 0) := by
    intro i hi
    rw [getD_in (by omega), getD_in (by rw [HYL.out]; exact hi)]
    subst hys
    rw [List.getElem_reverse]
    congr 1
    omega
  have HZ := Lib.hid hz
  have HV := Lib.hid hv
  clear hz hv hys hlen h8 hlt
  go_enter Tryz.func108, Tryz.ntmps108
  go_wp2_with (at_make; refine wpList_make_words rfl _ _ rfl _ _ _ _ ((m + 3) / 4) ((m + 3) / 4) rfl rfl (by omega) (by omega) (by omega) (by omega) ?_)
  intro w1 hbuf hb1 hz1
  have HZ1 := Lib.hid hz1
  clear hz1
  go_wp2
  go_loopw [15] (fun i wr => ∃ (k : Nat) (ls : List Nat), k ≤ m ∧ i = .int .i64 (k : Int) ∧ Hid (ls.length = (m + 3) / 4) ∧ Hid (val ls = bval (ys.take k)) ∧ Buf wr w.heap.size ls ∧ Below w.heap.size w wr) (fun i _ => m - (intOf i).toNat)
  case atStart => exact ⟨0, List.replicate ((m + 3) / 4) 0, by omega, rfl, by simp [Hid], by rw [Hid, val_zeros]; rfl, hbuf, hb1⟩
  case round =>
    obtain ⟨k, ls, hk, rfl, HL, HVL, hbuf', hb'⟩ := hrel
    have hsz := hb'.size
    have hblt := hbuf'.lt
    clear hbuf hb1 HZ1
    by_cases hk0 : k < m
    · obtain ⟨-, -, hhl, hcell⟩ := (HV.out.on hb').open_
      obtain ⟨q, hq⟩ : ∃ q, q = k / 4 := ⟨_, rfl⟩
      obtain ⟨r, hr⟩ : ∃ r, r = k % 4 := ⟨_, rfl⟩
      obtain ⟨s, hs⟩ : ∃ s, s = k % 4 * 8 := ⟨_, rfl⟩
      obtain ⟨x, hx⟩ : ∃ x, x = ys.getD k 0 := ⟨_, rfl⟩
      obtain ⟨a, ha⟩ : ∃ a, a = ls.getD q 0 := ⟨_, rfl⟩
      obtain ⟨k1, k2, k3, k4, k5⟩ := byte_into ls ys k x q s hbuf'.1 (by rw [HL.out]; omega) HVL.out HY8.out (by rw [HYL.out]; exact hk0) hx.symm hq hs
      have hqi : (k : Int) / 4 = (q : Int) := by omega
      have hri : (k : Int) % 4 = (r : Int) := by omega
      have hsi : (r : Int) * 8 = (s : Int) := by omega
      have hs24 : s ≤ 24 := by omega
      have hc1 := hcell (m - 1 - k) (by have := HYL.out; have h := HV.out.open_.1; omega)
      rw [HYX.out k hk0, ← hx] at hc1
      have hc2 := hbuf'.cell q (by rw [HL.out]; omega)
      rw [← ha] at hc2 k2 k3 k4 k5
      have hf := hbuf'.frozen q
      have HB := Lib.hid (hbuf'.set q (a + x * 2 ^ s) _ k4 rfl)
      have hne : h ≠ w.heap.size := by have := HV.out.open_.2.2.1; omega
      obtain ⟨t, ht⟩ : ∃ t, t = x * 2 ^ s := ⟨_, rfl⟩
      have hti : (x : Int) * 2 ^ s = (t : Int) := by rw [ht, Int.natCast_mul, Int.natCast_pow]; rfl
      rw [← ht] at k3 k4 k5 HB
      have hor : bits BinOp.or IntKind.u32 (a : Int) (t : Int) = ((a + t : Nat) : Int) := by rw [or_w32 a t (by omega) (by omega), k3]
      rw [Int.natCast_add] at hor HB
      have hmk : (0 : Int) ≤ (m : Int) - 1 - (k : Int) := by omega
      have hmk2 : ((m : Int) - 1 - (k : Int)) = ((m - 1 - k : Nat) : Int) := by omega
      have HK5 := Lib.hid k5
      have hql : q < (m + 3) / 4 := by omega
      have hpk : m - 1 - k < m := by omega
      clear hcell ha hx ht hq hr hs k2 k3 k5 hbuf'
      go_wp2
      go_region
      go_wp2
      go_roundw
      case rel =>
        refine ⟨k + 1, ls.set q (a + t), by omega, by go_num, by rw [Hid, List.length_set]; exact HL.out, HK5.out, HB.out, Below.drew (hb'.setCell (Nat.le_refl _) _)⟩
      case measure => simp [intOf]; omega
    · obtain rfl : k = m := by omega
      have hw := hbuf'.words (cap := (k + 3) / 4) (by rw [HL.out]; omega) (by rw [HL.out]; exact Nat.le_refl _)
      rw [HL.out] at hw
      have HW := Lib.hid hw
      have hv := HVL.out
      rw [List.take_of_length_le (by rw [HYL.out]; exact Nat.le_refl _)] at hv
      have HVV := Lib.hid hv
      have hz1 := HZ.out.on hb'
      clear hbuf' hw hv
      go_wp2_with fail
      refine (is_any false hz1 HW.out).mono ?_
      rintro e w3 ⟨rfl, h1, h2⟩
      rw [HVV.out] at h1
      have H3 := Lib.hid h1
      have H4 := Lib.hid h2
      clear h1 h2 hz1
      go_wp2
      go_ret
      refine ⟨rfl, ?_, (Touch.of_below hb' b o 2).trans H4.out⟩
      have := H3.out
      simpa [sg] using this

theorem led_back (n m k : Nat) (h : (led n).length = m) (hk : k < m) :
    (List.replicate (m - k) 0 ++ (led n).reverse.drop (m - k)).set (m - 1 - k) (n / 256 ^ k % 256) = List.replicate (m - (k + 1)) 0 ++ (led n).reverse.drop (m - (k + 1)) := by
  obtain ⟨j, hj⟩ : ∃ j, m - k = j + 1 := ⟨m - k - 1, by omega⟩
  rw [show m - 1 - k = j by omega, show m - (k + 1) = j by omega, hj]
  have e : (led n).reverse.drop j = (n / 256 ^ k % 256) :: (led n).reverse.drop (j + 1) := by
    rw [List.drop_eq_getElem_cons (by rw [List.length_reverse]; omega)]
    congr 1
    rw [List.getElem_reverse, ← led_getD, getD_in (by omega)]
    congr 1
    omega
  rw [e, List.replicate_succ']
  rw [List.append_assoc, List.set_append_right _ _ (by simp)]
  simp

theorem Bits.le {n L k : Nat} (h : Bits n L) (hk : n < 2 ^ k) : L ≤ k := by
  rcases Nat.eq_zero_or_pos L with h0 | h0
  · omega
  · have h1 := h.2 h0
    have := (Nat.pow_lt_pow_iff_right (by decide : 1 < 2)).1 (Nat.lt_of_le_of_lt h1 hk)
    omega

set_option maxRecDepth 100000 in
theorem Bytes_any {w : World} {b o : Nat} {n : Int} (hx : IntAt w b o n) (hn : Okn n) :
    Calls Tryz.prog 105 #[.pointer (some ⟨b, o, none⟩)] w fun e w' => ∃ v, e = .returned v ∧ Byt w' v (led n.natAbs).reverse ∧ Below w.heap.size w w' := by
  have HX := Lib.hid hx
  have HO := Lib.hid hn
  clear hx hn
  go_enter Tryz.func105, Tryz.ntmps105
  go_wp2_with fail
  refine (BitLen_any HX.out).mono ?_
  rintro e w1 ⟨L, rfl, hL, hLb, hb1⟩
  obtain ⟨N, hN⟩ : ∃ N, N = n.natAbs := ⟨_, rfl⟩
  have ho := HO.out
  unfold Okn at ho
  rw [← hN] at hL ho
  obtain ⟨m, hm⟩ : ∃ m, m = (L + 7) / 8 := ⟨_, rfl⟩
  have HM : Hid ((led N).length = m) := by rw [hm]; exact led_len_bits N L hL.1 hL.2
  have hmi : ((L : Int) + 7) / 8 = (m : Int) := by omega
  have hLL := hL.le (by have := dig_lt N; rw [p32] at this; exact this)
  have hmb : m ≤ 17179869185 := by omega
  have HN := Lib.hid hN
  have HB1 := Lib.hid hb1
  have HS1 : Hid (w.heap.size ≤ w1.heap.size) := hb1.size
  clear hL hm hb1 hN hLL ho
  go_wp2_with (at_make; refine wpList_make_bytes rfl _ _ rfl _ _ _ _ m m rfl rfl (by omega) (by omega) (Nat.le_refl _) (by omega) ?_)
  intro w2 hbuf hb2 hz2
  have HB2 := Lib.hid hz2
  clear hz2
  go_wp2
  go_loopw [14] (fun i wr => ∃ (k : Nat), k ≤ m ∧ i = .int .i64 (k : Int) ∧ BBuf wr w1.heap.size (List.replicate (m - k) 0 ++ (led N).reverse.drop (m - k)) ∧ Below w1.heap.size w1 wr) (fun i _ => m - (intOf i).toNat)
  case atStart => exact ⟨0, by omega, rfl, by rw [Nat.sub_zero, List.drop_of_length_le (by rw [List.length_reverse, HM.out]; exact Nat.le_refl _), List.append_nil]; exact hbuf, hb2⟩
  case round =>
    obtain ⟨k, hk, rfl, hbuf', hb'⟩ := hrel
    have hsz := hb'.size
    have hblt := hbuf'.lt
    clear hbuf hb2 HB2
    by_cases hk0 : k < m
    · have hx := HX.out.on (HB1.out.trans (hb'.mono HS1.out))
      obtain ⟨A, l, c, h0, h1, h2, hlt⟩ := hx.open_
      rw [← HN.out] at h2
      have hl := h2.len.1
      obtain ⟨q, hq⟩ : ∃ q, q = k / 4 := ⟨_, rfl⟩
      obtain ⟨r, hr⟩ : ∃ r, r = k % 4 := ⟨_, rfl⟩
      obtain ⟨s, hs⟩ : ∃ s, s = k % 4 * 8 := ⟨_, rfl⟩
      have hql : q < l := by
        have h3 := led_len_le N (4 * l) (by have := dig_lt N; rw [← hl, p32] at this; rw [p256]; rwa [show 8 * (4 * l) = 32 * l by omega])
        have := HM.out
        omega
      obtain ⟨g, p, rfl, hall⟩ := h2.open_ (by omega)
      have hc := hall q hql
      obtain ⟨x, hx'⟩ : ∃ x, x = N / 4294967296 ^ q % 4294967296 := ⟨_, rfl⟩
      have hx32 : x < 4294967296 := by rw [hx']; exact Nat.mod_lt _ (by decide)
      replace hc : wr.cell? ⟨g, p + q, none⟩ = some (.int .u32 (x : Int)) := by rw [hx', ← dig_getD]; exact hc
      obtain ⟨y, hy⟩ : ∃ y, y = x / 2 ^ s := ⟨_, rfl⟩
      have hsh : (x : Int) / 2 ^ s = (y : Int) := by rw [hy, Int.natCast_ediv]; simp
      have hyb : y < 4294967296 := by rw [hy]; exact Nat.lt_of_le_of_lt (Nat.div_le_self _ _) hx32
      have hbyte : y % 256 = N / 256 ^ k % 256 := by rw [hy, hx', hq, hs]; exact byte_word N k
      have HBY := Lib.hid hbyte
      have hqi : (k : Int) / 4 = (q : Int) := by omega
      have hri : (k : Int) % 4 = (r : Int) := by omega
      have hsi : (r : Int) * 8 = (s : Int) := by omega
      have hs24 : s ≤ 24 := by omega
      have hmk2 : ((m : Int) - 1 - (k : Int)) = ((m - 1 - k : Nat) : Int) := by omega
      have hc2 := hbuf'.cell (m - 1 - k) (by rw [List.length_append, List.length_replicate]; omega)
      have hf := hbuf'.frozen (m - 1 - k)
      have HB := Lib.hid (hbuf'.set (m - 1 - k) (y % 256) _ (Nat.mod_lt _ (by decide)) rfl)
      have HH := Lib.hid hb'
      clear hall h0 h2 hx hl hx' hy hbyte hbuf' hb' hq hr hs
      go_wp2
      go_roundw
      case rel =>
        refine ⟨k + 1, by omega, by go_num, ?_, HH.out.setCell (Nat.le_refl _) _⟩
        have h := HB.out
        have h2 := led_back N m k HM.out hk0
        rw [← HBY.out] at h2
        rw [h2] at h
        exact h
      case measure => simp [intOf]; omega
    · obtain rfl : k = m := by omega
      rw [Nat.sub_self, List.replicate_zero, List.nil_append, List.drop_zero] at hbuf'
      have HV := Lib.hid (hbuf'.byt (n := k) (cap := k) (by rw [List.length_reverse]; exact HM.out))
      clear hbuf'
      go_wp2
      go_ret
      exact ⟨_, rfl, by rw [← HN.out]; exact HV.out, HB1.out.trans (hb'.mono HS1.out)⟩
end Go.Proofs.YtaenedjanckaiaaGreat
