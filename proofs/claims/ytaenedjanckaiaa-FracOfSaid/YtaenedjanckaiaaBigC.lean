/- Package big: magnitudes: product. -/
import Derived.Test.YtaenedjanckaiaaBigB
namespace Go.Proofs.Ytaenedjanckaiaa
set_option linter.unnecessarySimpa false
set_option linter.unusedVariables false
set_option linter.unusedSimpArgs false
open Go.RowKit

set_option maxHeartbeats 1000000 in
theorem product_any {A B : Option Addr} {la ca lb cb : Nat} {xs ys : List Nat} {w : World} (hx : Words w (.slice A la ca) xs) (hy : Words w (.slice B lb cb) ys) (h1 : la ≤ 8589934592) (h2 : lb ≤ 8589934592) :
    Calls Try.prog 105 #[.slice A la ca, .slice B lb cb] w fun e w' => ∃ v zs, e = .returned v ∧ Words w' v zs ∧ val zs = val xs * val ys ∧ Below w.heap.size w w' := by
  have hla := Lib.hid hx.len.1
  have hlb := Lib.hid hy.len.1
  have HA := Lib.hid hx
  have HB := Lib.hid hy
  have hwx := Lib.hid hx.1
  have hwy := Lib.hid hy.1
  clear hx hy
  go_enter Try.func105, Try.ntmps105
  go_wp2_with (at_make; refine wpList_make_words rfl _ _ rfl _ _ _ _ (la + lb) (la + lb) rfl rfl (by omega) (by omega) (Nat.le_refl _) (by omega) ?_)
  intro w1 hbuf hb1 hz1
  have HZ := Lib.hid hz1
  clear hz1
  go_wp2
  go_loopw [19] (fun i wr => ∃ (k : Nat) (os : List Nat), k ≤ la ∧ i = .int .i64 (k : Int) ∧ Hid (os.length = la + lb) ∧ Hid (val os = val (xs.take k) * val ys) ∧ Hid (∀ j, k + lb ≤ j → os.getD j 0 = 0) ∧ Buf wr w.heap.size os ∧ Below w.heap.size w wr) (fun i _ => la - (intOf i).toNat)
  case atStart => exact ⟨0, List.replicate (la + lb) 0, by omega, rfl, by simp [Hid], by simp [Hid, val, val_zeros], fun j _ => by simp [List.getD, List.getElem?_replicate]; split <;> rfl, hbuf, hb1⟩
  case round =>
    obtain ⟨i, os, hi, rfl, HK, HV, H0, hbuf', hb'⟩ := hrel
    obtain ⟨wo, rfl⟩ : ∃ wo : World, wo = wr := ⟨_, rfl⟩
    clear hbuf hb1 HZ
    by_cases hk1 : i < la
    · have hX := (HA.out.below hb')
      obtain ⟨b, o, rfl, hcx⟩ := hX.open_ (by omega)
      have hcx := hcx i hk1
      have hxl := hwx.out.get? i
      have HBUF := Lib.hid hbuf'
      clear hX hbuf'
      go_wp2
      go_loopw [8, 26] (fun c j wr => ∃ (k d : Nat) (os' : List Nat), k ≤ lb ∧ d < 4294967296 ∧ c = .int .u64 (d : Int) ∧ j = .int .i64 (k : Int) ∧ Hid (os'.length = la + lb) ∧ Hid (val os' + 4294967296 ^ (i + k) * d = val os + 4294967296 ^ i * (xs.getD i 0 * val (ys.take k))) ∧ Hid (∀ j, i + lb ≤ j → os'.getD j 0 = 0) ∧ Buf wr w.heap.size os' ∧ Below w.heap.size w wr) (fun _ j _ => lb - (intOf j).toNat)
      case atStart => exact ⟨0, 0, os, by omega, by omega, rfl, rfl, HK, by simp [Hid, val], H0, HBUF.out, hb'⟩
      case round =>
        obtain ⟨k, d, os', hk, hd, rfl, rfl, HK', HV', H0', hbuf2, hb2⟩ := hrel
        have hlt := hb2.size
        have hblt := hbuf2.lt
        clear hb' hcx
        by_cases hk2 : k < lb
        · have hY := (HB.out.below hb2)
          obtain ⟨b2, o2, rfl, hcy⟩ := hY.open_ (by omega)
          have hcy := hcy k hk2
          have hyl := hwy.out.get? k
          have hst := hbuf2.cell (i + k) (by rw [HK'.out]; omega)
          have hfz := hbuf2.frozen (i + k)
          have hol := hbuf2.1.get? (i + k)
          obtain ⟨m, hm⟩ : ∃ m, m = xs[i]?.getD 0 * ys[k]?.getD 0 := ⟨_, rfl⟩
          have hmb : m ≤ 18446744065119617025 := by rw [hm]; exact mul_word _ _ hxl hyl
          have hmi : ((xs[i]?.getD 0 : Nat) : Int) * ((ys[k]?.getD 0 : Nat) : Int) = (m : Int) := by rw [hm]; exact (Int.natCast_mul _ _).symm
          have HM := Lib.hid hm
          have HBUF2 := Lib.hid hbuf2
          clear hY hbuf2 hm HBUF
          go_wp2
          go_roundw
          case rel =>
            refine ⟨k + 1, (d + (m + os'.getD (i + k) 0)) / 4294967296, os'.set (i + k) ((d + (m + os'.getD (i + k) 0)) % 4294967296), by omega, by simp only [List.getD]; omega, by simp only [List.getD]; go_num, rfl, ?_, ?_, ?_, ?_, hb2.setCell (Nat.le_refl _) _⟩
            · rw [Hid, List.length_set]; exact HK'.out
            · exact prod_val os os' ys i k d (xs.getD i 0) _ (by rw [HK'.out]; omega) HV'.out (by rw [HM.out]; rfl)
            · intro j hj
              rw [getD_set, if_neg (by omega)]
              exact H0'.out j hj
            · exact HBUF2.out.set (i + k) _ _ (by omega) (by simp only [List.getD]; go_num)
          case measure => simp [intOf]; omega
        · obtain rfl : k = lb := by omega
          have hst := hbuf2.cell (i + k) (by rw [HK'.out]; omega)
          have hfz := hbuf2.frozen (i + k)
          have HBUF2 := Lib.hid hbuf2
          clear hbuf2 HBUF
          go_wp2
          go_roundw
          case rel =>
            refine ⟨i + 1, os'.set (i + k) d, by omega, rfl, ?_, ?_, ?_, HBUF2.out.set (i + k) d _ hd (by go_num), hb2.setCell (Nat.le_refl _) _⟩
            · rw [Hid, List.length_set]; exact HK'.out
            · have h1 := HV'.out
              rw [val_take_all ys k (by rw [hlb.out]; exact Nat.le_refl _)] at h1
              have hl := hlb.out
              have h2 := H0'.out (i + k) (Nat.le_refl _)
              rw [hl] at h1 h2 ⊢
              exact prod_end os os' xs ys i d (by rw [HK'.out]; omega) h2 HV.out h1
            · intro j hj
              rw [getD_set]
              split
              · omega
              · exact H0'.out j (by omega)
          case measure => simp [intOf]; omega
    · obtain rfl : i = la := by omega
      have hw := hbuf'.words (cap := i + lb) (by rw [HK.out]; omega) (by rw [HK.out]; exact Nat.le_refl _)
      rw [HK.out] at hw
      have HW := Lib.hid hw
      clear hw hbuf'
      go_wp2
      go_ret
      refine ⟨_, _, rfl, HW.out, ?_, hb'⟩
      rw [HV.out, val_take_all xs _ (by rw [hla.out]; exact Nat.le_refl _)]
end Go.Proofs.Ytaenedjanckaiaa
