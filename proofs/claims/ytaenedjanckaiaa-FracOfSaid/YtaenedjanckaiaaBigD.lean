/- Package big: magnitudes: left, right, short. -/
import Derived.Test.YtaenedjanckaiaaBigC
namespace Go.Proofs.Ytaenedjanckaiaa
set_option linter.unnecessarySimpa false
set_option linter.unusedVariables false
set_option linter.unusedSimpArgs false
open Go.RowKit


theorem left_any {A : Option Addr} {la ca : Nat} {xs : List Nat} {w : World} (hx : Words w (.slice A la ca) xs) (h1 : la ≤ 8589934592) (n : Nat) (hn : n ≤ 137438953472) :
    Calls Try.prog 124 #[.slice A la ca, .int .i64 (n : Int)] w fun e w' => ∃ v, e = .returned v ∧ Words w' v (dig (val xs * 2 ^ n)) ∧ Below w.heap.size w w' := by
  have hla := Lib.hid hx.len.1
  have HA := Lib.hid hx
  have hwx := Lib.hid hx.1
  clear hx
  obtain ⟨s, hs⟩ : ∃ s, s = n % 32 := ⟨_, rfl⟩
  have hs32 : s < 32 := by omega
  have hsi : (n : Int) % 32 = (s : Int) := by omega
  have HS := Lib.hid hs
  clear hs
  go_enter Try.func124, Try.ntmps124
  go_wp2_with (at_make; refine wpList_make_words rfl _ _ rfl _ _ _ _ (n / 32) (n / 32 + la + 1) rfl rfl (by omega) (by omega) (by omega) (by omega) ?_)
  intro w1 hbuf hb1 hz1
  have HROW := Lib.hid (Row.of_buf (n := n / 32) hbuf (Nat.le_refl _) (by omega) (by omega))
  have HZ := Lib.hid hz1
  clear hz1 hbuf
  go_wp2
  go_loopw [5, 6, 20] (fun v c i wr => ∃ (k d : Nat) (ys : List Nat), k ≤ la ∧ Hid (d < 2 ^ s) ∧ c = .int .u64 (d : Int) ∧ i = .int .i64 (k : Int) ∧ Hid (ys.length = k) ∧ Hid (val ys + 4294967296 ^ k * d = val (xs.take k) * 2 ^ s) ∧ Hid (Row wr w.heap.size v (List.replicate (n / 32) 0 ++ ys)) ∧ Below w.heap.size w wr) (fun _ _ i _ => la - (intOf i).toNat)
  case atStart => exact ⟨0, 0, [], by omega, Nat.two_pow_pos _, rfl, rfl, rfl, by simp [Hid, val], by simpa [Hid] using HROW.out, hb1⟩
  case round =>
    obtain ⟨k, d, ys, hk, HD, rfl, rfl, HK, HV, hrow', hb'⟩ := hrel
    have hlt := hb'.size
    clear HROW hb1 HZ
    by_cases hk1 : k < la
    · have hX := (HA.out.below hb')
      obtain ⟨b, o, rfl, hcx⟩ := hX.open_ (by omega)
      have hcx := hcx k hk1
      have hxl := hwx.out.get? k
      obtain ⟨m, hm⟩ : ∃ m, m = xs[k]?.getD 0 * 2 ^ s := ⟨_, rfl⟩
      have hmi : ((xs[k]?.getD 0 : Nat) : Int) * 2 ^ s = (m : Int) := by rw [hm, Int.natCast_mul, Int.natCast_pow]; rfl
      have hmb := mul_two_pow_lt (xs[k]?.getD 0) s hxl (by omega)
      rw [← hm] at hmb
      have hsp : 2 ^ s ≤ 2 ^ 32 := Nat.pow_le_pow_right (by omega) (by omega)
      have hp := Nat.two_pow_pos s
      have hd1 := HD.out
      have hm1 : m ≤ 18446744073709551615 := by omega
      have hd2 : d ≤ 4294967296 := by omega
      have hor : bits BinOp.or IntKind.u64 (d : Int) (m : Int) = ((d + m : Nat) : Int) := by rw [bits_or_u64_nat d m (by omega) (by omega), hm, or_add _ _ _ hd1]
      rw [Int.natCast_add] at hor
      have hsum : d + m ≤ 18446744073709551615 := by omega
      have HM := Lib.hid hm
      clear hX hm hmb hsp hp hd1
      go_wp2_with (at_builtin; refine wpList_append_word rfl (.tmp 31) (.tmp 34) rfl w.heap.size _ (List.replicate (n / 32) 0 ++ ys) rfl (hrow'.out.alloc _) ⟨wr.heap.size, 0, none⟩ 1 ((d + m) % 4294967296) _ rfl (cell_new0 _ _ _) ?_ (by omega) ?_ ?_ ?_)
      · omega
      · simp only [List.length_append, List.length_replicate, HK.out]; omega
      · simp; omega
      · intro v' w' hrow2 hb2
        have HR2 := Lib.hid hrow2
        have hb3 : Below w.heap.size w w' := (hb'.alloc (by omega) _).trans hb2
        clear hrow2 hb2 hb'
        go_wp2
        go_roundw
        case rel =>
          refine ⟨k + 1, (d + m) / 4294967296, ys ++ [(d + m) % 4294967296], by omega, ?_, by go_num, rfl, ?_, ?_, HR2.out, hb3⟩
          · rw [Hid, HM.out]; exact left_carry _ s d hxl (by omega) HD.out
          · rw [Hid, List.length_append, HK.out]; rfl
          · exact left_val xs ys k d s _ HK.out HV.out (by rw [HM.out]; rfl)
        case measure => simp [intOf]; omega
    · obtain rfl : k = la := by omega
      have hsp : 2 ^ s ≤ 2 ^ 32 := Nat.pow_le_pow_right (by omega) (by omega)
      have hd1 : d < 4294967296 := by have := HD.out; omega
      clear hsp
      go_wp2_with (at_builtin; refine wpList_append_word rfl (.tmp 39) (.tmp 42) rfl w.heap.size _ (List.replicate (n / 32) 0 ++ ys) rfl (hrow'.out.alloc _) ⟨wr.heap.size, 0, none⟩ 1 d _ rfl (cell_new0 _ _ _) ?_ hd1 ?_ ?_ ?_)
      · omega
      · simp only [List.length_append, List.length_replicate, HK.out]; omega
      · simp; omega
      · intro v' w' hrow2 hb2
        have hb3 : Below w.heap.size w w' := (hb'.alloc (by omega) _).trans hb2
        have hw := hrow2.words (by simp only [List.length_append, List.length_replicate, HK.out, List.length_cons, List.length_nil]; omega)
        have HW := Lib.hid hw
        obtain ⟨A', L', cap', rfl⟩ := hw.form
        clear hrow2 hb2 hb' hw
        go_wp2_with (go_at_call 120; refine (cut_any HW.out).mono ?_; rintro e w2 ⟨rfl, rfl⟩)
        go_ret
        refine ⟨_, rfl, ?_, hb3⟩
        have h2 := HW.out.trim_
        have h3 : trim (List.replicate (n / 32) 0 ++ (ys ++ [d])) = dig (val xs * 2 ^ n) := by
          refine dig_of _ _ HW.out.1 (left_end xs ys n d ?_)
          have := HV.out
          rw [val_take_all xs _ (by rw [hla.out]; exact Nat.le_refl _), HS.out] at this
          rw [HK.out]; exact this
        rw [← h3]
        exact h2

/-- Two words as one number of 64 bits. -/
theorem or_two (a x : Nat) (ha : a < 4294967296) (hx : x < 4294967296) : bits BinOp.or IntKind.u64 ((a : Int) * 4294967296) (x : Int) = ((a * 4294967296 + x : Nat) : Int) := by
  have := bits_or_u64_nat (a * 4294967296) x (by omega) (by omega)
  rw [or_word a x hx] at this
  rw [← this]; rfl
theorem or_two' (a x : Nat) (ha : a < 4294967296) (hx : x < 4294967296) : bits BinOp.or IntKind.u64 (x : Int) ((a : Int) * 4294967296) = ((a * 4294967296 + x : Nat) : Int) := by
  have := bits_or_u64_nat x (a * 4294967296) (by omega) (by omega)
  rw [Nat.or_comm, or_word a x hx] at this
  rw [← this]; rfl

theorem short_any {A : Option Addr} {la ca : Nat} {xs : List Nat} {w : World} (hx : Words w (.slice A la ca) xs) (h1 : la ≤ 17179869184) (d : Nat) (hd0 : 0 < d) (hd : d < 4294967296) :
    Calls Try.prog 118 #[.slice A la ca, .int .u32 (d : Int)] w fun e w' => ∃ v, e = .returned (.tuple #[v, .int .u32 ((val xs % d : Nat) : Int)]) ∧ Words w' v (dig (val xs / d)) ∧ Below w.heap.size w w' := by
  have hla := Lib.hid hx.len.1
  have HA := Lib.hid hx
  have hwx := Lib.hid hx.1
  clear hx
  have hd1 : (1 : Int) ≤ (d : Int) := by omega
  go_enter Try.func118, Try.ntmps118
  go_wp2_with (at_make; refine wpList_make_words rfl _ _ rfl _ _ _ _ la la rfl rfl rfl rfl (by omega) (by omega) ?_)
  intro w1 hbuf hb1 hz1
  have HZ := Lib.hid hz1
  clear hz1
  go_wp2
  go_loopw [7, 8] (fun c i wr => ∃ (k r : Nat) (qs : List Nat), k ≤ la ∧ r < d ∧ c = .int .u64 (r : Int) ∧ i = .int .i64 ((k : Int) - 1) ∧ Hid (qs.length = la - k) ∧ Hid (val qs * d + r = val (xs.drop k)) ∧ Buf wr w.heap.size (List.replicate k 0 ++ qs) ∧ Below w.heap.size w wr) (fun _ i _ => (intOf i + 1).toNat)
  case atStart => exact ⟨la, 0, [], by omega, hd0, rfl, rfl, by simp [Hid], by rw [Hid, List.drop_of_length_le (by rw [hla.out]; exact Nat.le_refl _)]; simp [val], by simpa using hbuf, hb1⟩
  case round =>
    obtain ⟨k, r, qs, hk, hr, rfl, rfl, HK, HV, hbuf', hb'⟩ := hrel
    have hlt := hb'.size
    have hblt := hbuf'.lt
    clear hbuf hb1 HZ
    by_cases hk0 : 0 < k
    · obtain ⟨k, rfl⟩ : ∃ j, k = j + 1 := ⟨k - 1, by omega⟩
      have e1 : ((k + 1 : Nat) : Int) - 1 = (k : Int) := by omega
      rw [e1]
      clear e1
      have hX := (HA.out.below hb')
      obtain ⟨b, o, rfl, hcx⟩ := hX.open_ (by omega)
      have hcx := hcx k (by omega)
      have hxl := hwx.out.get? k
      have hst := hbuf'.cell k (by rw [List.length_append, HK.out, List.length_replicate]; omega)
      have hfz := hbuf'.frozen k
      have HBUF := Lib.hid hbuf'
      have hor := or_two r (xs[k]?.getD 0) (by omega) hxl
      obtain ⟨t, ht⟩ : ∃ t, t = r * 4294967296 + xs[k]?.getD 0 := ⟨_, rfl⟩
      rw [← ht] at hor
      have htb : t ≤ 18446744073709551615 := by omega
      obtain ⟨q, hqd⟩ : ∃ q, q = t / d := ⟨_, rfl⟩
      obtain ⟨r', hrd⟩ : ∃ r', r' = t % d := ⟨_, rfl⟩
      have hq : ((t : Int) / (d : Int)) = (q : Int) := by rw [hqd]; rfl
      have hq2 : ((t : Int) % (d : Int)) = (r' : Int) := by rw [hrd]; rfl
      have hqb : q ≤ 4294967295 := by have := short_word r d (xs[k]?.getD 0) hr hxl; rw [← ht, ← hqd] at this; omega
      have hrb : r' < d := by rw [hrd]; exact Nat.mod_lt _ hd0
      have HQ := Lib.hid hqd
      have HR := Lib.hid hrd
      have HT := Lib.hid ht
      have hk1 : (0 : Int) ≤ (k : Int) := by omega
      clear hX hbuf' ht hqd hrd
      go_wp2
      go_roundw
      case rel =>
        refine ⟨k, r', q :: qs, by omega, hrb, by rw [hq2], rfl, ?_, by rw [HQ.out, HR.out]; exact short_val xs qs k r d t (by have := hla.out; omega) HV.out (by rw [HT.out]; rfl), ?_, hb'.setCell (Nat.le_refl _) _⟩
        · rw [Hid, List.length_cons, HK.out]; omega
        · have := HBUF.out.set k q _ (by omega) rfl
          rw [set_zero_append] at this
          exact this
      case measure => simp [intOf]
    · obtain rfl : k = 0 := by omega
      rw [List.replicate_zero, List.nil_append] at hbuf'
      have hw := hbuf'.words (cap := la) (by rw [HK.out]; omega) (by rw [HK.out]; omega)
      rw [HK.out, Nat.sub_zero] at hw
      have HW := Lib.hid hw
      have hend := Lib.hid (short_end xs qs r d hr (by have := HV.out; rwa [List.drop_zero] at this))
      clear hbuf' hw
      go_wp2_with (go_at_call 120; refine (cut_any HW.out).mono ?_; rintro e w2 ⟨rfl, rfl⟩)
      go_ret2
      refine ⟨.slice (some ⟨w.heap.size, 0, none⟩) (trim qs).length la, ?_, ?_, hb'⟩
      · rw [← hend.out.2]; rfl
      · rw [← dig_of qs _ HW.out.1 hend.out.1]
        exact HW.out.trim_

theorem right_any {A : Option Addr} {la ca : Nat} {xs : List Nat} {w : World} (hx : Words w (.slice A la ca) xs) (h1 : la ≤ 17179869184) (n : Nat) (hn : n ≤ 1099511627776) :
    Calls Try.prog 126 #[.slice A la ca, .int .i64 (n : Int)] w fun e w' => ∃ v, e = .returned v ∧ Words w' v (dig (val xs / 2 ^ n)) ∧ Below w.heap.size w w' := by
  have hla := Lib.hid hx.len.1
  have hlc := hx.len.2
  by_cases h0 : la ≤ n / 32
  · have HE := Lib.hid (shr_none xs n hx.1 (by rw [← hla.out]; exact h0))
    have h0' : (la : Int) ≤ (n : Int) / 32 := by omega
    clear hx
    go_enter Try.func126, Try.ntmps126
    go_wp2
    go_ret
    refine ⟨_, rfl, ?_, Below.refl _ _⟩
    rw [HE.out, dig_zero]
    exact Words.nil w
  · have h0' : (n : Int) / 32 < (la : Int) := by omega
    obtain ⟨s, hs⟩ : ∃ s, s = n % 32 := ⟨_, rfl⟩
    have hs32 : s < 32 := by omega
    have hsi : (n : Int) % 32 = (s : Int) := by omega
    obtain ⟨q, hq⟩ : ∃ q, q = n / 32 := ⟨_, rfl⟩
    have hqi : (n : Int) / 32 = (q : Int) := by omega
    have hqla : q < la := by omega
    have HE := shr_words xs n hx.1 (by rw [← hla.out]; omega)
    rw [← hs, ← hq] at HE
    have hd := Words.drop (xs := xs) (by have := hx; rw [hla.out] at this; exact this) q (by rw [← hla.out]; omega)
    rw [← hla.out] at hd
    obtain ⟨b, o, rfl, _⟩ := hx.open_ (by omega)
    have hadd : (Option.map (fun x : Addr => x.add q) (some ⟨b, o, none⟩) : Option Addr) = some ⟨b, o + q, none⟩ := by
      simp only [Option.map_some, Addr.add]
      split
      · rename_i h; subst h; rfl
      · rfl
    rw [hadd] at hd
    have HD := Lib.hid hd
    have hwy := Lib.hid hd.1
    have hly := Lib.hid hd.len.1
    have HE2 := Lib.hid HE
    obtain ⟨ys, hys⟩ : ∃ ys, ys = xs.drop q := ⟨_, rfl⟩
    rw [← hys] at HD hwy hly HE2
    clear hx hadd hd HE hs hq hys h0 h0'
    go_enter Try.func126, Try.ntmps126
    go_wp2_with (at_make; refine wpList_make_words rfl _ _ rfl _ _ _ _ (la - q) (la - q) rfl rfl (by omega) (by omega) (by omega) (by omega) ?_)
    intro w1 hbuf hb1 hz1
    have HZ := Lib.hid hz1
    clear hz1
    go_wp2
    go_loopw [23] (fun i wr => ∃ (k : Nat), k ≤ la - q ∧ i = .int .i64 (k : Int) ∧ Buf wr w.heap.size ((shrL s ys).take k ++ List.replicate (la - q - k) 0) ∧ Below w.heap.size w wr) (fun i _ => la - q - (intOf i).toNat)
    case atStart => exact ⟨0, by omega, rfl, by simpa using hbuf, hb1⟩
    case round =>
      obtain ⟨k, hk, rfl, hbuf', hb'⟩ := hrel
      have hlt := hb'.size
      have hblt := hbuf'.lt
      clear hbuf hb1 HZ
      have hkl : ((shrL s ys).take k).length = k := by rw [List.length_take, shrL_length, ← hly.out]; omega
      by_cases hk1 : k < la - q
      · have hki : (k : Int) < ((la - q : Nat) : Int) := by omega
        have hX := (HD.out.below hb')
        obtain ⟨b', o', he', hcx⟩ := hX.open_ (by omega)
        injection he' with he'
        injection he' with e1 e2 _
        subst e1 e2
        have hcx1 := hcx k (by omega)
        have hxl := hwy.out.get? k
        have hst := hbuf'.cell k (by rw [List.length_append, hkl, List.length_replicate]; omega)
        have hfz := hbuf'.frozen k
        have HBUF := Lib.hid hbuf'
        have HKL := Lib.hid hkl
        clear hX hbuf' hkl
        by_cases hk2 : k + 1 < la - q
        · have hki2 : (k : Int) + 1 < ((la - q : Nat) : Int) := by omega
          have hcx2 := hcx (k + 1) hk2
          have hxl2 := hwy.out.get? (k + 1)
          have hor := or_two' (ys[k + 1]?.getD 0) (ys[k]?.getD 0) hxl2 hxl
          obtain ⟨t, ht⟩ : ∃ t, t = ys[k + 1]?.getD 0 * 4294967296 + ys[k]?.getD 0 := ⟨_, rfl⟩
          rw [← ht] at hor
          have htb : t ≤ 18446744073709551615 := by omega
          obtain ⟨u, hu⟩ : ∃ u, u = t / 2 ^ s := ⟨_, rfl⟩
          have hui : (t : Int) / 2 ^ s = (u : Int) := by rw [hu, Int.natCast_ediv, Int.natCast_pow]; rfl
          have HU := Lib.hid hu
          have HT := Lib.hid ht
          clear hcx hu ht
          go_wp2
          go_roundw
          case rel =>
            refine ⟨k + 1, by omega, rfl, ?_, hb'.setCell (Nat.le_refl _) _⟩
            have h := HBUF.out.push HKL.out (by omega) (u % 4294967296) ((u : Int) % 4294967296) (by omega) (by omega)
            rw [shrL_take s ys k (by rw [← hly.out]; exact hk1)]
            have e : (ys.getD k 0 + 4294967296 * ys.getD (k + 1) 0) / 2 ^ s = u := by rw [HU.out, HT.out, Nat.add_comm, Nat.mul_comm]; rfl
            rw [e, show la - q - (k + 1) = la - q - k - 1 from by omega]
            exact h
          case measure => simp [intOf]; omega
        · have hki2 : ¬ (k : Int) + 1 < ((la - q : Nat) : Int) := by omega
          have hy0 : ys.getD (k + 1) 0 = 0 := getD_out (by rw [← hly.out]; omega)
          have HY0 := Lib.hid hy0
          obtain ⟨u, hu⟩ : ∃ u, u = ys[k]?.getD 0 / 2 ^ s := ⟨_, rfl⟩
          have hui : ((ys[k]?.getD 0 : Nat) : Int) / 2 ^ s = (u : Int) := by rw [hu, Int.natCast_ediv, Int.natCast_pow]; rfl
          have HU := Lib.hid hu
          clear hcx hu hy0
          go_wp2
          go_roundw
          case rel =>
            refine ⟨k + 1, by omega, rfl, ?_, hb'.setCell (Nat.le_refl _) _⟩
            have h := HBUF.out.push HKL.out (by omega) (u % 4294967296) ((u : Int) % 4294967296) (by omega) (by omega)
            rw [shrL_take s ys k (by rw [← hly.out]; exact hk1)]
            have e : (ys.getD k 0 + 4294967296 * ys.getD (k + 1) 0) / 2 ^ s = u := by rw [HU.out, HY0.out]; rfl
            rw [e, show la - q - (k + 1) = la - q - k - 1 from by omega]
            exact h
          case measure => simp [intOf]; omega
      · obtain rfl : k = la - q := by omega
        rw [Nat.sub_self, List.replicate_zero, List.append_nil, List.take_of_length_le (by rw [shrL_length, ← hly.out]; exact Nat.le_refl _)] at hbuf'
        have hw := hbuf'.words (cap := la - q) (by rw [shrL_length, ← hly.out]; omega) (by rw [shrL_length, ← hly.out]; exact Nat.le_refl _)
        rw [shrL_length, ← hly.out] at hw
        have HW := Lib.hid hw
        clear hbuf' hw hkl
        go_wp2_with (go_at_call 120; refine (cut_any HW.out).mono ?_; rintro e w2 ⟨rfl, rfl⟩)
        go_ret
        refine ⟨_, rfl, ?_, hb'⟩
        rw [← HE2.out, ← val_shrL s ys hwy.out hs32, ← dig_of _ _ (Wf_shrL s ys) rfl]
        exact HW.out.trim_
end Go.Proofs.Ytaenedjanckaiaa
