/- The reference of layer 2: Of. -/
import Derived.Test.YtaenedjanckaiaaGreatRefA
namespace Go.Proofs.YtaenedjanckaiaaGreat
set_option linter.unnecessarySimpa false
set_option linter.unusedVariables false
set_option linter.unusedSimpArgs false
open Go.RowKit

set_option maxRecDepth 100000 in
theorem rof_any {w : World} {n : Int} (hr : -9223372036854775808 ≤ n ∧ n ≤ 9223372036854775807) :
    Calls Tryz.prog 45 #[.int .i64 n] w fun e w' => e = .returned (wholeV n) ∧ Below w.heap.size w w' := by
  have HR := Lib.hid hr
  have HB := Lib.hid (below_new w (.cells #[.bool false, .string ⟨#[]⟩] 23))
  have HC := Lib.hid (BoxAt.new w #[.bool false, .string ⟨#[]⟩] 23)
  obtain ⟨k, hk⟩ : ∃ k, k = n.natAbs := ⟨_, rfl⟩
  have hkb : k ≤ 9223372036854775808 := by omega
  obtain ⟨x, hx⟩ : ∃ x, x = k % 4294967296 := ⟨_, rfl⟩
  obtain ⟨y, hy⟩ : ∃ y, y = k / 4294967296 := ⟨_, rfl⟩
  have hx32 : x < 4294967296 := by omega
  have hy32 : y < 4294967296 := by omega
  have hxi : (k : Int) % 4294967296 = (x : Int) := by omega
  have hyi : (k : Int) / 4294967296 = (y : Int) := by omega
  have HS : Hid (sg (decide (n < 0)) (val [x, y]) = n) := by
    have : val [x, y] = k := by simp [val]; omega
    rw [Hid, this, hk, sg_of]
  have HWW := Lib.hid (words_two (w.alloc (.cells #[.bool false, .string ⟨#[]⟩] 23)) x y _ _ hx32 hy32 rfl rfl)
  have HBW := Lib.hid (below_new (w.alloc (.cells #[.bool false, .string ⟨#[]⟩] 23)) (.cells #[.int .u32 (x : Int), .int .u32 (y : Int)] 110))
  have HC1 := Lib.hid (HC.out.on HBW.out)
  have HB1 := Lib.hid (HB.out.trans (HBW.out.mono HB.out.size))
  rw [size_alloc] at HWW
  by_cases h : n < 0
  all_goals
    have hw1 : IntKind.u64.wrap n = if n < 0 then 18446744073709551616 + n else n := by simp [IntKind.wrap, IntKind.bits, IntKind.signed]; omega
  · rw [if_pos h] at hw1
    have hw2 : IntKind.u64.wrap (-(18446744073709551616 + n)) = -n := by simp [IntKind.wrap, IntKind.bits, IntKind.signed]; omega
    have hnk : -n = (k : Int) := by omega
    rw [hnk] at hw2
    have hd : decide (n < 0) = true := by simpa using h
    rw [hd] at HS
    clear hr hk hnk hx hy
    go_enter Tryz.func45, Tryz.ntmps45
    go_wp2_with fail
    refine (made_any true HWW.out (by decide)).mono ?_
    rintro e w1 ⟨rfl, hb⟩
    rw [HS.out]
    obtain ⟨p, s, hps⟩ : ∃ p s, wholeV n = .agg #[.bool p, .string s] := ⟨_, _, rfl⟩
    have HPS := Lib.hid hps
    rw [hps]
    have HC2 := Lib.hid (HC1.out.on hb)
    have HB2 := Lib.hid (HB1.out.trans (hb.mono HB1.out.size))
    have hp0 := HC2.out.cell 0 _ rfl
    have hp1 := HC2.out.cell 1 _ rfl
    have hf := HC2.out.frozen
    clear hps hb
    go_wp2
    have hk := (HC2.out.set 0 (.bool p)).set 1 (.string s)
    have k0 := hk.cell 0 _ rfl
    have k1 := hk.cell 1 _ rfl
    exact bodyPost_ret (v := .agg #[.bool p, .string s]) (by simp [results, Tryz.results45, go_sem, k0, k1]) rfl ⟨by rw [HPS.out], (HB2.out.setCell (Nat.le_refl _) _).setCell (Nat.le_refl _) _⟩
  · rw [if_neg h] at hw1
    have hnk : n = (k : Int) := by omega
    have hd : decide (n < 0) = false := by simpa using h
    rw [hd] at HS
    have hw3 : IntKind.u64.wrap n = (k : Int) := by rw [hw1]; exact hnk
    have HNK := Lib.hid hnk
    clear hr hk hx hy hw1 hnk
    go_enter Tryz.func45, Tryz.ntmps45
    go_wp2_with fail
    refine (made_any false HWW.out (by decide)).mono ?_
    rintro e w1 ⟨rfl, hb⟩
    rw [HS.out]
    obtain ⟨p, s, hps⟩ : ∃ p s, wholeV n = .agg #[.bool p, .string s] := ⟨_, _, rfl⟩
    have HPS := Lib.hid hps
    rw [hps]
    have HC2 := Lib.hid (HC1.out.on hb)
    have HB2 := Lib.hid (HB1.out.trans (hb.mono HB1.out.size))
    have hp0 := HC2.out.cell 0 _ rfl
    have hp1 := HC2.out.cell 1 _ rfl
    have hf := HC2.out.frozen
    clear hps hb
    go_wp2
    have hk := (HC2.out.set 0 (.bool p)).set 1 (.string s)
    have k0 := hk.cell 0 _ rfl
    have k1 := hk.cell 1 _ rfl
    exact bodyPost_ret (v := .agg #[.bool p, .string s]) (by simp [results, Tryz.results45, go_sem, k0, k1]) rfl ⟨by rw [HPS.out], (HB2.out.setCell (Nat.le_refl _) _).setCell (Nat.le_refl _) _⟩
end Go.Proofs.YtaenedjanckaiaaGreat
