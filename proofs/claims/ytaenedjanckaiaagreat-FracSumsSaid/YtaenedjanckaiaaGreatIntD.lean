/- Package big: whole numbers: BitLen, Bit. -/
import Derived.Laws.BitsLemmas
import Derived.Test.YtaenedjanckaiaaGreatIntC
import Derived.Test.YtaenedjanckaiaaGreatBym
namespace Go.Proofs.YtaenedjanckaiaaGreat
set_option linter.unnecessarySimpa false
set_option linter.unusedVariables false
set_option linter.unusedSimpArgs false
open Go.RowKit

theorem wraps_w32 (n : Int) (h0 : 0 ≤ n) (h1 : n < 2 ^ 32) : IntKind.u32.wrap n = n := by
  simp [IntKind.wrap, IntKind.bits, IntKind.signed]; omega
theorem and_w32 (a b : Nat) (ha : a < 4294967296) (hb : b < 4294967296) : bits BinOp.and IntKind.u32 (a : Int) (b : Int) = ((a &&& b : Nat) : Int) := (bits_nat .u32 32 (by decide) wraps_w32 a b ha hb).1
theorem or_w32 (a b : Nat) (ha : a < 4294967296) (hb : b < 4294967296) : bits BinOp.or IntKind.u32 (a : Int) (b : Int) = ((a ||| b : Nat) : Int) := (bits_nat .u32 32 (by decide) wraps_w32 a b ha hb).2

theorem top_bits (m l t j : Nat) (hl : (dig m).length = l) (h0 : 0 < l) (ht : (dig m).getD (l - 1) 0 = t) (hj : j ≤ 31) (h1 : t * 2 ^ j < 4294967296) (h2 : 2147483648 ≤ t * 2 ^ j) :
    m < 2 ^ (32 * l - j) ∧ 2 ^ (32 * l - j - 1) ≤ m := by
  have hm := dig_lt m
  rw [hl] at hm
  obtain ⟨k, rfl⟩ : ∃ k, l = k + 1 := ⟨l - 1, by omega⟩
  rw [Nat.add_sub_cancel, dig_getD] at ht
  rw [Nat.pow_succ] at hm
  have h3 : m / 4294967296 ^ k < 4294967296 := Nat.div_lt_of_lt_mul hm
  rw [Nat.mod_eq_of_lt h3] at ht
  have hP : 0 < 4294967296 ^ k := Nat.pow_pos (by decide)
  have e1 : 2 ^ (32 * (k + 1) - j) = 4294967296 ^ k * 2 ^ (32 - j) := by
    rw [p32, ← Nat.pow_add]
    congr 1
    omega
  have e2 : 2 ^ (32 * (k + 1) - j - 1) = 4294967296 ^ k * 2 ^ (31 - j) := by
    rw [p32, ← Nat.pow_add]
    congr 1
    omega
  have e3 : 2 ^ (32 - j) * 2 ^ j = 4294967296 := by rw [← Nat.pow_add, show 32 - j + j = 32 by omega]
  have e4 : 2 ^ (31 - j) * 2 ^ j = 2147483648 := by rw [← Nat.pow_add, show 31 - j + j = 31 by omega]
  have hJ : 0 < 2 ^ j := Nat.pow_pos (by decide)
  have h5 : t < 2 ^ (32 - j) := by rw [← e3] at h1; exact Nat.lt_of_mul_lt_mul_right h1
  have h6 : 2 ^ (31 - j) ≤ t := by rw [← e4] at h2; exact Nat.le_of_mul_le_mul_right h2 hJ
  rw [e1, e2]
  subst ht
  exact ⟨(Nat.div_lt_iff_lt_mul hP).1 h5 |> fun h => by rw [Nat.mul_comm]; exact h, by rw [Nat.mul_comm]; exact (Nat.le_div_iff_mul_le hP).1 h6⟩

theorem dig_top (m : Nat) (h : dig m ≠ []) : (dig m).getD ((dig m).length - 1) 0 ≠ 0 := by
  have h0 : 0 < m := by
    rcases Nat.eq_zero_or_pos m with k | k
    · subst k; exact absurd dig_zero h
    · exact k
  have h1 := dig_len_ge m h0
  have h2 := dig_lt m
  have h3 : 0 < (dig m).length := List.length_pos_iff.2 h
  rw [dig_getD]
  generalize (dig m).length = k at *
  obtain ⟨j, rfl⟩ : ∃ j, k = j + 1 := ⟨k - 1, by omega⟩
  rw [Nat.add_sub_cancel] at *
  rw [Nat.pow_succ] at h2
  have h5 : 0 < 4294967296 ^ j := Nat.pow_pos (by decide)
  have h6 : m / 4294967296 ^ j < 4294967296 := Nat.div_lt_of_lt_mul h2
  have h7 : 0 < m / 4294967296 ^ j := Nat.div_pos h1 h5
  omega
/-- How many bits. -/
def Bits (m L : Nat) : Prop := m < 2 ^ L ∧ (0 < L → 2 ^ (L - 1) ≤ m)
theorem BitLen_any {w : World} {b o : Nat} {n : Int} (hx : IntAt w b o n) :
    Calls Tryz.prog 130 #[.pointer (some ⟨b, o, none⟩)] w fun e w' => ∃ L : Nat, e = .returned (.int .i64 (L : Int)) ∧ Bits n.natAbs L ∧ L ≤ 549755813888 ∧ Below w.heap.size w w' := by
  obtain ⟨A, l, c, h0, h1, h2, _⟩ := hx.open_
  have hl := h2.len.1
  have hlb := h2.2.1
  rw [← hl] at hlb
  have hf := hx.slot.frozen o
  have HX := Lib.hid hx
  clear hf h0
  rcases Nat.eq_zero_or_pos l with hz | hz
  · subst hz
    have hn : n.natAbs = 0 := (dig_nil_iff _).1 (List.eq_nil_of_length_eq_zero hl.symm)
    have HN := Lib.hid hn
    clear hn hl h2 hx
    go_enter Tryz.func130, Tryz.ntmps130
    go_wp2
    go_ret
    exact ⟨0, rfl, by rw [HN.out]; exact ⟨by decide, fun h => absurd h (by decide)⟩, by decide, Below.refl _ _⟩
  · have ht0 : (dig n.natAbs).getD (l - 1) 0 ≠ 0 := by
      rw [hl]
      exact dig_top _ fun e => by rw [e] at hl; simp [hl] at hz
    obtain ⟨g, p, rfl, hc⟩ := h2.open_ hz
    have hc := hc (l - 1) (by omega)
    obtain ⟨t, ht⟩ : ∃ t, t = (dig n.natAbs).getD (l - 1) 0 := ⟨_, rfl⟩
    have ht32 : t < 4294967296 := by rw [ht]; exact (Wf_dig _).getD _
    have htp : 0 < t := by omega
    replace hc : w.cell? ⟨g, p + (l - 1), none⟩ = some (.int .u32 (t : Int)) := by rw [ht]; exact hc
    have hfin := fun j hj h1 h2 => top_bits n.natAbs l t j hl.symm hz ht.symm hj h1 h2
    have HF := Lib.hid hfin
    have hl0 : (0 : Int) ≤ (l : Int) - 1 := by omega
    clear hl h2 hx ht0 ht hfin
    go_enter Tryz.func130, Tryz.ntmps130
    go_wp2
    go_region
    go_wp2
    go_loopw [3, 4] (fun i c wr => ∃ k T : Nat, k ≤ 31 ∧ i = .int .i64 (((32 * l - k : Nat) : Int)) ∧ c = .int .u32 (T : Int) ∧ T < 4294967296 ∧ 0 < T ∧ Hid (T = t * 2 ^ k) ∧ Below w.heap.size w wr) (fun _ c _ => (4294967296 - intOf c).toNat)
    case atStart => exact ⟨0, t, by omega, by rw [Nat.sub_zero]; go_num, rfl, ht32, htp, by simp [Hid], by first | exact Below.refl _ _ | exact Below.drewN_ (Below.refl _ _) _⟩
    case round =>
      obtain ⟨k, T, hk, rfl, rfl, hT, hT0, HTT, hbb⟩ := hrel
      by_cases hdone : T < 2147483648
      · have hq : (((T : Int) / 2147483648) == 0) = true := by rw [beq_iff_eq]; omega
        go_wp2
        go_roundw
        case rel =>
          refine ⟨k + 1, T * 2, ?_, by go_num, by go_num, by omega, by omega, ?_, hbb⟩
          · rcases Nat.lt_or_ge k 31 with h | h
            · omega
            · exfalso
              have h1 := HTT.out
              have h2 : t * 2 ^ 31 ≤ t * 2 ^ k := Nat.mul_le_mul_left _ (Nat.pow_le_pow_right (by omega) h)
              omega
          · rw [Hid, HTT.out, Nat.pow_succ, Nat.mul_assoc]
        case measure => simp [intOf]; omega
      · have hq : (((T : Int) / 2147483648) == 0) = false := by rw [beq_eq_false_iff_ne]; omega
        have HG := Lib.hid (HF.out k hk (by rw [← HTT.out]; exact hT) (by rw [← HTT.out]; omega))
        clear hc
        go_wp2
        go_ret
        exact ⟨32 * l - k, rfl, ⟨HG.out.1, fun _ => HG.out.2⟩, by omega, hbb⟩
theorem Bit_any {w : World} {b o : Nat} {n : Int} (hx : IntAt w b o n) (i : Nat) (hi : i ≤ 4611686018427387904) :
    Calls Tryz.prog 78 #[.pointer (some ⟨b, o, none⟩), .int .i64 (i : Int)] w fun e w' => e = .returned (.int .u64 ((n.natAbs / 2 ^ i % 2 : Nat) : Int)) ∧ Below w.heap.size w w' := by
  obtain ⟨A, l, c, h0, h1, h2, _⟩ := hx.open_
  have hl := h2.len.1
  have hlb := h2.2.1
  rw [← hl] at hlb
  clear h0
  obtain ⟨q, hq⟩ : ∃ q, q = i / 32 := ⟨_, rfl⟩
  obtain ⟨r, hr⟩ : ∃ r, r = i % 32 := ⟨_, rfl⟩
  have hqi : (i : Int) / 32 = (q : Int) := by omega
  have hqi2 : Int.tdiv (i : Int) 32 = (q : Int) := by rw [Int.tdiv_eq_ediv_of_nonneg (by omega)]; omega
  have hri2 : Int.tmod (i : Int) 32 = (r : Int) := by rw [Int.tmod_eq_emod_of_nonneg (by omega)]; omega
  have hr32 : r < 32 := by omega
  have hq32 : q ≤ 4611686018427387904 := by omega
  by_cases hlt : q < l
  · obtain ⟨g, p, rfl, hall⟩ := h2.open_ (by omega)
    have hc := hall q (by omega)
    clear hall
    obtain ⟨x, hx'⟩ : ∃ x, x = n.natAbs / 4294967296 ^ q % 4294967296 := ⟨_, rfl⟩
    have hx32 : x < 4294967296 := by rw [hx']; exact Nat.mod_lt _ (by decide)
    replace hc : w.cell? ⟨g, p + q, none⟩ = some (.int .u32 (x : Int)) := by rw [hx', ← dig_getD]; exact hc
    have hfin : x / 2 ^ r % 2 = n.natAbs / 2 ^ i % 2 := by
      rw [show i = 32 * q + r by omega, Nat.pow_add, ← Nat.div_div_eq_div_mul, ← p32, hx']
      generalize n.natAbs / 4294967296 ^ q = m
      rw [show m % 4294967296 = m % (2 ^ r * (2 * 2 ^ (31 - r))) by
        rw [← Nat.mul_assoc, ← Nat.pow_succ, ← Nat.pow_add, show r + 1 + (31 - r) = 32 by omega]]
      rw [Nat.mod_mul_right_div_self, Nat.mod_mul_right_mod]
    have HF := Lib.hid hfin
    have hsh : (x : Int) / 2 ^ r = ((x / 2 ^ r : Nat) : Int) := by rw [Int.natCast_ediv]; simp
    obtain ⟨y, hy⟩ : ∃ y, y = x / 2 ^ r := ⟨_, rfl⟩
    have hyx : y < 4294967296 := by rw [hy]; exact Nat.lt_of_le_of_lt (Nat.div_le_self _ _) hx32
    rw [← hy] at hsh HF
    have hand : bits BinOp.and IntKind.u32 (y : Int) 1 = ((y % 2 : Nat) : Int) := by
      have := and_w32 y 1 hyx (by decide)
      rw [Nat.and_one_is_mod] at this
      exact this
    clear hl h2 hx hq hr hx' hy hfin
    go_enter Tryz.func78, Tryz.ntmps78
    go_wp2
    go_ret
    refine ⟨?_, by first | exact Below.refl _ _ | exact Below.drewN_ (Below.refl _ _) _⟩
    rw [← HF.out]
    rfl
  · have hfin : n.natAbs / 2 ^ i % 2 = 0 := by
      have h3 := dig_lt n.natAbs
      rw [← hl, p32] at h3
      rw [Nat.div_eq_of_lt]
      exact Nat.lt_of_lt_of_le h3 (Nat.pow_le_pow_right (by decide) (by omega))
    have HF := Lib.hid hfin
    clear hl h2 hx hq hr hfin
    go_enter Tryz.func78, Tryz.ntmps78
    go_wp2
    go_ret
    refine ⟨?_, by first | exact Below.refl _ _ | exact Below.drewN_ (Below.refl _ _) _⟩
    rw [HF.out]
    rfl
end Go.Proofs.YtaenedjanckaiaaGreat
