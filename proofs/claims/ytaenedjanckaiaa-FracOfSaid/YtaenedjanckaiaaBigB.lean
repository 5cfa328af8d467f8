/- Package big: magnitudes: more. -/
import Derived.Test.YtaenedjanckaiaaBigA
namespace Go.Proofs.Ytaenedjanckaiaa
set_option linter.unnecessarySimpa false
set_option linter.unusedVariables false
set_option linter.unusedSimpArgs false
open Go.RowKit

theorem more_core (A B : Option Addr) (la ca lb cb : Nat) (xs ys : List Nat) (v0 v1 : Value) (w : World) (hx : Words w (.slice A la ca) xs) (hy : Words w (.slice B lb cb) ys) (hsz : la ≤ 8589934592)
    (hv : (v0 = .slice A la ca ∧ v1 = .slice B lb cb ∧ lb ≤ la) ∨ (v1 = .slice A la ca ∧ v0 = .slice B lb cb ∧ lb < la)) :
    Calls Try.prog 109 #[v0, v1] w fun e w' => ∃ v zs, e = .returned v ∧ Words w' v zs ∧ val zs = val xs + val ys ∧ Below w.heap.size w w' := by
  have hla := Lib.hid hx.len.1
  have hlb := Lib.hid hy.len.1
  have HA := Lib.hid hx
  have HB := Lib.hid hy
  have hwx := Lib.hid hx.1
  have hwy := Lib.hid hy.1
  clear hx hy
  rcases hv with ⟨rfl, rfl, hle⟩ | ⟨rfl, rfl, hle⟩
  all_goals
    go_enter Try.func109, Try.ntmps109
    go_wp2_with (at_make; refine wpList_make_words rfl _ _ rfl _ _ _ _ (la + 1) (la + 1) rfl rfl (by omega) (by omega) (Nat.le_refl _) (by omega) ?_)
    intro w1 hbuf hb1 hz1
    have HZ := Lib.hid hz1
    clear hz1
    go_wp2
    go_loopw [6, 22] (fun c i wr => ∃ (k d : Nat) (zs : List Nat), k ≤ la ∧ d ≤ 1 ∧ c = .int .u64 (d : Int) ∧ i = .int .i64 (k : Int) ∧ Hid (zs.length = k) ∧ Hid (val zs + 4294967296 ^ k * d = val (xs.take k) + val (ys.take k)) ∧ Buf wr w.heap.size (zs ++ List.replicate (la + 1 - k) 0) ∧ Below w.heap.size w wr) (fun _ i _ => la - (intOf i).toNat)
    case atStart => exact ⟨0, 0, [], by omega, by omega, rfl, rfl, rfl, by simp [Hid, val], by simpa using hbuf, hb1⟩
    case round =>
      obtain ⟨k, d, zs, hk, hd, rfl, rfl, HK, HV, hbuf', hb'⟩ := hrel
      have hlt := hb'.size
      have hblt := hbuf'.lt
      clear hbuf hb1 HZ
      by_cases hk1 : k < la
      · have hX := (HA.out.below hb')
        obtain ⟨b, o, rfl, hcx⟩ := hX.open_ (by omega)
        have hcx := hcx k hk1
        have hxl : ((xs[k]?.getD 0 : Nat) : Int) < 4294967296 := by have := hwx.out.get? k; omega
        have hst := hbuf'.cell k (by rw [List.length_append, HK.out, List.length_replicate]; omega)
        have hfz := hbuf'.frozen k
        have HBUF := Lib.hid hbuf'
        clear hX hbuf'
        by_cases hk2 : k < lb
        · have hY := (HB.out.below hb')
          obtain ⟨b2, o2, rfl, hcy⟩ := hY.open_ (by omega)
          have hcy := hcy k hk2
          have hyl : ((ys[k]?.getD 0 : Nat) : Int) < 4294967296 := by have := hwy.out.get? k; omega
          clear hY
          go_wp2
          go_roundw
          case rel =>
            refine ⟨k + 1, (d + xs.getD k 0 + ys.getD k 0) / 4294967296, zs ++ [(d + xs.getD k 0 + ys.getD k 0) % 4294967296], by omega, by simp only [List.getD]; omega, ?_, rfl, ?_, more_val _ _ _ _ _ _ HK.out HV.out rfl, ?_, hb'.setCell (Nat.le_refl _) _⟩
            · simp only [List.getD]; go_num
            · rw [Hid, List.length_append, HK.out]; rfl
            · have := HBUF.out.push HK.out (by omega) ((d + xs.getD k 0 + ys.getD k 0) % 4294967296) _ (by omega) (by simp only [List.getD]; try go_num)
              rw [show la + 1 - k - 1 = la + 1 - (k + 1) from by omega] at this
              exact this
          case measure => simp [intOf]; omega
        · have hy0 : ys.getD k 0 = 0 := getD_out (by have := hlb.out; omega)
          have HY0 := Lib.hid hy0
          clear hy0
          go_wp2
          go_roundw
          case rel =>
            refine ⟨k + 1, (d + xs.getD k 0 + ys.getD k 0) / 4294967296, zs ++ [(d + xs.getD k 0 + ys.getD k 0) % 4294967296], by omega, by rw [HY0.out]; simp only [List.getD]; omega, ?_, rfl, ?_, more_val _ _ _ _ _ _ HK.out HV.out rfl, ?_, hb'.setCell (Nat.le_refl _) _⟩
            · rw [HY0.out]; simp only [List.getD]; go_num
            · rw [Hid, List.length_append, HK.out]; rfl
            · have := HBUF.out.push HK.out (by omega) ((d + xs.getD k 0 + ys.getD k 0) % 4294967296) _ (by omega) (by rw [HY0.out]; try (simp only [List.getD]; try go_num))
              rw [show la + 1 - k - 1 = la + 1 - (k + 1) from by omega] at this
              exact this
          case measure => simp [intOf]; omega
      · obtain rfl : k = la := by omega
        have hst := hbuf'.cell k (by rw [List.length_append, HK.out, List.length_replicate]; omega)
        have hfz := hbuf'.frozen k
        have HBUF := Lib.hid hbuf'
        clear hbuf'
        go_wp2
        go_ret
        have hpush := HBUF.out.push HK.out (by omega) d _ (by omega) (by go_num)
        rw [show k + 1 - k - 1 = 0 from by omega, List.replicate_zero, List.append_nil] at hpush
        have hlen : (zs ++ [d]).length = k + 1 := by rw [List.length_append, HK.out]; rfl
        have hw := hpush.words (cap := k + 1) (by rw [hlen]; omega) (by rw [hlen]; exact Nat.le_refl _)
        rw [hlen] at hw
        refine ⟨_, _, rfl, hw, ?_, hb'.setCell (Nat.le_refl _) _⟩
        have h1 := HV.out
        rw [val_snoc, HK.out, h1, val_take_all _ _ (by rw [hla.out]; exact Nat.le_refl _), val_take_all _ _ (by rw [← hlb.out]; omega)]

theorem more_any {A B : Option Addr} {la ca lb cb : Nat} {xs ys : List Nat} {w : World} (hx : Words w (.slice A la ca) xs) (hy : Words w (.slice B lb cb) ys) (h1 : la ≤ 8589934592) (h2 : lb ≤ 8589934592) :
    Calls Try.prog 109 #[.slice A la ca, .slice B lb cb] w fun e w' => ∃ v zs, e = .returned v ∧ Words w' v zs ∧ val zs = val xs + val ys ∧ Below w.heap.size w w' := by
  rcases Nat.lt_or_ge la lb with h | h
  · refine (more_core B A lb cb la ca ys xs _ _ w hy hx h2 (.inr ⟨rfl, rfl, h⟩)).mono fun e w' ⟨v, zs, r1, r2, r3, r4⟩ => ⟨v, zs, r1, r2, by omega, r4⟩
  · exact more_core A B la ca lb cb xs ys _ _ w hx hy h1 (.inl ⟨rfl, rfl, h⟩)

theorem less_any {A B : Option Addr} {la ca lb cb : Nat} {xs ys : List Nat} {w : World} (hx : Words w (.slice A la ca) xs) (hy : Words w (.slice B lb cb) ys) (hsz : la ≤ 8589934592) (hle : val ys ≤ val xs) (hlen : lb ≤ la) :
    Calls Try.prog 110 #[.slice A la ca, .slice B lb cb] w fun e w' => ∃ v zs, e = .returned v ∧ Words w' v zs ∧ val zs = val xs - val ys ∧ Below w.heap.size w w' := by
  have hla := Lib.hid hx.len.1
  have hlb := Lib.hid hy.len.1
  have HA := Lib.hid hx
  have HB := Lib.hid hy
  have hwx := Lib.hid hx.1
  have hwy := Lib.hid hy.1
  have HL := Lib.hid hle
  clear hx hy hle
  go_enter Try.func110, Try.ntmps110
  go_wp2_with (at_make; refine wpList_make_words rfl _ _ rfl _ _ _ _ la la rfl rfl rfl rfl (Nat.le_refl _) (by omega) ?_)
  intro w1 hbuf hb1 hz1
  have HZ := Lib.hid hz1
  clear hz1
  go_wp2
  go_loopw [6, 16] (fun c i wr => ∃ (k d : Nat) (zs : List Nat), k ≤ la ∧ d ≤ 1 ∧ c = .int .u64 (d : Int) ∧ i = .int .i64 (k : Int) ∧ Hid (zs.length = k) ∧ Hid (val zs + val (ys.take k) = val (xs.take k) + 4294967296 ^ k * d) ∧ Buf wr w.heap.size (zs ++ List.replicate (la - k) 0) ∧ Below w.heap.size w wr) (fun _ i _ => la - (intOf i).toNat)
  case atStart => exact ⟨0, 0, [], by omega, by omega, rfl, rfl, rfl, by simp [Hid, val], by simpa using hbuf, hb1⟩
  case round =>
    obtain ⟨k, d, zs, hk, hd, rfl, rfl, HK, HV, hbuf', hb'⟩ := hrel
    have hlt := hb'.size
    have hblt := hbuf'.lt
    clear hbuf hb1 HZ
    by_cases hk1 : k < la
    · have hX := (HA.out.below hb')
      obtain ⟨b, o, rfl, hcx⟩ := hX.open_ (by omega)
      have hcx := hcx k hk1
      have hxl := hwx.out.get? k
      have hst := hbuf'.cell k (by rw [List.length_append, HK.out, List.length_replicate]; omega)
      have hfz := hbuf'.frozen k
      have HBUF := Lib.hid hbuf'
      clear hX hbuf'
      by_cases hk2 : k < lb
      · have hY := (HB.out.below hb')
        obtain ⟨b2, o2, rfl, hcy⟩ := hY.open_ (by omega)
        have hcy := hcy k hk2
        have hyl := hwy.out.get? k
        obtain ⟨D, z, d', hD, hDz, hDd, hz, hd', he⟩ := sub_word (xs[k]?.getD 0) (d + ys[k]?.getD 0) hxl (by omega)
        have HE := Lib.hid he
        clear hY he
        rw [Int.natCast_add] at hD
        go_wp2
        go_roundw
        case rel =>
          refine ⟨k + 1, d', zs ++ [z], by omega, hd', rfl, rfl, ?_, less_val _ _ _ _ _ _ _ HK.out HV.out (by simpa only [List.getD] using HE.out), ?_, hb'.setCell (Nat.le_refl _) _⟩
          · rw [Hid, List.length_append, HK.out]; rfl
          · have := HBUF.out.push HK.out (by omega) z _ (by omega) rfl
            rw [show la - k - 1 = la - (k + 1) from by omega] at this
            exact this
        case measure => simp [intOf]; omega
      · have hy0 : ys.getD k 0 = 0 := getD_out (by have := hlb.out; omega)
        have HY0 := Lib.hid hy0
        obtain ⟨D, z, d', hD, hDz, hDd, hz, hd', he⟩ := sub_word (xs[k]?.getD 0) d hxl (by omega)
        have HE := Lib.hid he
        clear hy0 he
        go_wp2
        go_roundw
        case rel =>
          refine ⟨k + 1, d', zs ++ [z], by omega, hd', rfl, rfl, ?_, less_val _ _ _ _ _ _ _ HK.out HV.out (by rw [HY0.out, Nat.add_zero]; simpa only [List.getD] using HE.out), ?_, hb'.setCell (Nat.le_refl _) _⟩
          · rw [Hid, List.length_append, HK.out]; rfl
          · have := HBUF.out.push HK.out (by omega) z _ (by omega) rfl
            rw [show la - k - 1 = la - (k + 1) from by omega] at this
            exact this
        case measure => simp [intOf]; omega
    · obtain rfl : k = la := by omega
      rw [Nat.sub_self, List.replicate_zero, List.append_nil] at hbuf'
      have hw := hbuf'.words (cap := k) (by rw [HK.out]; omega) (by rw [HK.out]; exact Nat.le_refl _)
      have hzw := hbuf'.1
      rw [HK.out] at hw
      have HW := Lib.hid hw
      clear hw hbuf'
      go_wp2
      go_ret
      refine ⟨_, _, rfl, HW.out, less_end xs ys zs k d hzw HK.out ?_ HL.out hd, hb'⟩
      have h1 := HV.out
      rw [val_take_all ys _ (by rw [← hlb.out]; omega), val_take_all xs _ (by rw [hla.out]; exact Nat.le_refl _)] at h1
      exact h1
end Go.Proofs.Ytaenedjanckaiaa
