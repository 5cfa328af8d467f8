/- BigA, Reg. -/
import Derived.BigQuiet
import Derived.Deep.QuietTactic
import Derived.WalkSpells
import Derived.WalkLawsBesides
import Derived.Test.YtiolbdleihiocaaGreatProg
import Derived.StillTail
import Derived.WalkKit
import Derived.Test.YtiolbdleihiocaaGreatPk1
namespace Go.Proofs.YtiolbdleihiocaaGreat
set_option linter.unnecessarySimpa false
set_option linter.unusedVariables false
set_option linter.unusedSimpArgs false
/- Package big: magnitudes: cut, under. Package big: magnitudes: more. Package big: magnitudes: product. Package big: magnitudes: left, right, short. -/
section
section
open Go.RowKit

theorem trim_take_pred (xs : List Nat) (k : Nat) (hk : 0 < k) (hl : k ≤ xs.length) (h0 : xs.getD (k - 1) 0 = 0) : trim (xs.take (k - 1)) = trim (xs.take k) := by
  obtain ⟨j, rfl⟩ : ∃ j, k = j + 1 := ⟨k - 1, by omega⟩
  simp only [Nat.add_sub_cancel] at *
  rw [List.take_succ_eq_append_getElem (by omega), ← getD_in (by omega), h0, trim_snoc_zero]
theorem trim_take_done (xs : List Nat) (k : Nat) (hk : 0 < k) (hl : k ≤ xs.length) (h0 : xs.getD (k - 1) 0 ≠ 0) : (trim (xs.take k)).length = k := by
  obtain ⟨j, rfl⟩ : ∃ j, k = j + 1 := ⟨k - 1, by omega⟩
  simp only [Nat.add_sub_cancel] at *
  rw [List.take_succ_eq_append_getElem (by omega), ← getD_in (by omega), trim_snoc_pos _ _ h0]
  simp; omega

theorem cut_cells (xs : List Nat) (b o n cap : Nat) (w : World) (hn : xs.length = n) (hb : n ≤ 17179869184) (hcap : n ≤ cap)
    (hc : ∀ i, i < n → w.cell? ⟨b, o + i, none⟩ = some (.int .u32 (xs.getD i 0 : Nat))) :
    Calls Tryz.prog 302 #[.slice (some ⟨b, o, none⟩) n cap] w fun e w' => e = .returned (.slice (some ⟨b, o, none⟩) (trim xs).length cap) ∧ w = w' := by
  have HN := Lib.hid hn
  clear hn
  go_enter Tryz.func302, Tryz.ntmps302
  go_wp2
  go_loop [0] (fun s => ∃ k : Nat, k ≤ n ∧ s = .slice (some ⟨b, o, none⟩) k cap ∧ trim (xs.take k) = trim xs) (fun s => match s with | .slice _ k _ => k | _ => 0)
  case atStart => exact ⟨n, Nat.le_refl _, rfl, by rw [List.take_of_length_le (by rw [HN.out]; exact Nat.le_refl _)]⟩
  case round =>
    obtain ⟨k, hk, rfl, hr⟩ := hrel
    have HR := Lib.hid hr
    clear hr
    by_cases hk0 : 0 < k
    · have hk1 : (0 : Int) ≤ (k : Int) - 1 := by omega
      have hcell := hc (k - 1) (by omega)
      go_wp2
      · have h0 : (((xs[k - 1]?.getD 0 : Nat) : Int) == 0) = true := by assumption
        have h0' : xs.getD (k - 1) 0 = 0 := by simp at h0; simpa using h0
        exact ⟨⟨k - 1, by omega, rfl, by rw [trim_take_pred xs k hk0 (by rw [HN.out]; exact hk) h0', HR.out]⟩, by simp; omega⟩
      · have h0 : (((xs[k - 1]?.getD 0 : Nat) : Int) == 0) = false := by assumption
        have h0' : xs.getD (k - 1) 0 ≠ 0 := by simp at h0; simpa using h0
        go_ret
        refine ⟨?_, rfl⟩
        have := trim_take_done xs k hk0 (by rw [HN.out]; exact hk) h0'
        rw [HR.out] at this
        rw [this]
        rfl
    · obtain rfl : k = 0 := by omega
      go_wp2
      go_ret
      refine ⟨?_, rfl⟩
      have := HR.out
      have hz : (trim xs).length = 0 := by rw [← this]; rfl
      rw [hz]
      rfl

theorem cut_any {w : World} {A : Option Addr} {n cap : Nat} {xs : List Nat} (h : Words w (.slice A n cap) xs) :
    Calls Tryz.prog 302 #[.slice A n cap] w fun e w' => e = .returned (.slice A (trim xs).length cap) ∧ w = w' := by
  obtain ⟨hl, hcap⟩ := h.len
  by_cases h0 : n = 0
  · subst h0
    obtain rfl : xs = [] := List.eq_nil_of_length_eq_zero hl.symm
    clear hl h
    go_enter Tryz.func302, Tryz.ntmps302
    go_wp2
    refine wp_loop_rounds 1 ?_
    rw [rounds_succ]
    go_wp2
    go_ret
    exact ⟨rfl, rfl⟩
  · obtain ⟨b, o, rfl, hc⟩ := h.open_ (by omega)
    exact cut_cells xs b o n cap w hl.symm (by rw [hl]; exact h.2.1) hcap hc

theorem ret_i {k : IntKind} {a b : Int} (h : a = b) : Ending.returned (.int k a) = .returned (.int k b) := by rw [h]

theorem under_cells (xs ys : List Nat) (b o b' o' n ca cb : Nat) (r : Int) (w : World) (hx : xs.length = n) (hy : ys.length = n) (hb : n ≤ 17179869184) (h0 : 0 < n) (hwx : Wf xs) (hwy : Wf ys) (hr : r = cmpN (val xs) (val ys))
    (hc : ∀ i, i < n → w.cell? ⟨b, o + i, none⟩ = some (.int .u32 (xs.getD i 0 : Nat))) (hd : ∀ i, i < n → w.cell? ⟨b', o' + i, none⟩ = some (.int .u32 (ys.getD i 0 : Nat))) :
    Calls Tryz.prog 292 #[.slice (some ⟨b, o, none⟩) n ca, .slice (some ⟨b', o', none⟩) n cb] w fun e w' => e = .returned (.int .i64 r) ∧ Dr w w' := by
  have HX := Lib.hid hx
  have HY := Lib.hid hy
  have HR := Lib.hid hr
  clear hx hy hr
  go_enter Tryz.func292, Tryz.ntmps292
  go_wp2
  go_loopw [5] (fun i wr => ∃ k : Nat, k ≤ n ∧ i = .int .i64 ((k : Int) - 1) ∧ (∀ j, k ≤ j → j < n → xs.getD j 0 = ys.getD j 0) ∧ Dr w wr) (fun i _ => (intOf i + 1).toNat)
  case atStart => exact ⟨n, Nat.le_refl _, rfl, fun j h1 h2 => by omega, Dr.refl _⟩
  case round =>
    obtain ⟨k, hk, rfl, hs, d, rfl⟩ := hrel
    have HS := Lib.hid hs
    clear hs
    by_cases hk0 : 0 < k
    · obtain ⟨k, rfl⟩ : ∃ j, k = j + 1 := ⟨k - 1, by omega⟩
      have e1 : ((k + 1 : Nat) : Int) - 1 = (k : Int) := by omega
      rw [e1]
      clear e1
      have hk1 : (0 : Int) ≤ (k : Int) := by omega
      have hk2 : (k : Int) < (n : Int) := by omega
      have hcell := hc k (by omega)
      have hcell' := hd k (by omega)
      go_wp2
      go_quiet (fail)
      go_wp2
      · have h1 : (xs[k]?.getD 0) < (ys[k]?.getD 0) := by assumption
        go_ret
        refine ⟨ret_i ?_, by repeat (first | exact ⟨_, rfl⟩ | refine Dr.n ?_ _)⟩
        have h2 := val_lt_of xs ys k hwx (by rw [HX.out, HY.out]) (by rw [HX.out]; omega) (by simpa using h1) (fun j h3 h4 => HS.out j (by omega) (by rw [HX.out] at h4; exact h4))
        rw [HR.out, cmpN, if_pos h2]
      · go_quiet (fail)
        go_wp2
        · have h1 : (ys[k]?.getD 0) < (xs[k]?.getD 0) := by assumption
          go_ret
          refine ⟨ret_i ?_, by repeat (first | exact ⟨_, rfl⟩ | refine Dr.n ?_ _)⟩
          have h2 := val_lt_of ys xs k hwy (by rw [HX.out, HY.out]) (by rw [HY.out]; omega) (by simpa using h1) (fun j h3 h4 => (HS.out j (by omega) (by rw [HY.out] at h4; exact h4)).symm)
          rw [HR.out, cmpN, if_neg (by omega), if_pos h2]
        · have h1 : (ys[k]?.getD 0) ≤ (xs[k]?.getD 0) := Nat.le_of_not_lt (by assumption)
          have h2 : (xs[k]?.getD 0) ≤ (ys[k]?.getD 0) := Nat.le_of_not_lt (by assumption)
          go_roundw
          case rel =>
            refine ⟨k, by omega, rfl, fun j h3 h4 => ?_, by repeat (first | exact ⟨_, rfl⟩ | refine Dr.n ?_ _)⟩
            rcases Nat.eq_or_lt_of_le h3 with rfl | h5
            · simpa using Nat.le_antisymm h2 h1
            · exact HS.out j (by omega) h4
          case measure => simp [intOf]
    · obtain rfl : k = 0 := by omega
      go_wp2
      go_ret
      refine ⟨ret_i ?_, _, rfl⟩
      have : xs = ys := val_eq_of_same xs ys (by rw [HX.out, HY.out]) (fun i hi => HS.out i (by omega) (by rw [HX.out] at hi; exact hi))
      rw [HR.out, this]
      simp [cmpN]

theorem under_any {w : World} {A B : Option Addr} {la ca lb cb n m : Nat} (hx : Words w (.slice A la ca) (dig n)) (hy : Words w (.slice B lb cb) (dig m)) :
    Calls Tryz.prog 292 #[.slice A la ca, .slice B lb cb] w fun e w' => e = .returned (.int .i64 (cmpN n m)) ∧ Dr w w' := by
  have hla := hx.len.1
  have hlb := hy.len.1
  have hsz := hx.2.1
  have hsz2 := hy.2.1
  rcases Nat.lt_trichotomy la lb with h | h | h
  · have hc : cmpN n m = -1 := by rw [cmpN, if_pos (dig_len_lt n m (by omega))]
    rw [hc]
    rw [← hla] at hsz
    rw [← hlb] at hsz2
    clear hx hy hc hla hlb
    go_enter Tryz.func292, Tryz.ntmps292
    go_wp2
    go_ret
    exact ⟨rfl, Dr.refl _⟩
  · subst h
    by_cases h0 : la = 0
    · subst h0
      have e1 := (dig_nil_iff n).1 (List.eq_nil_of_length_eq_zero hla.symm)
      have e2 := (dig_nil_iff m).1 (List.eq_nil_of_length_eq_zero hlb.symm)
      have hc : cmpN n m = 0 := by rw [e1, e2]; rfl
      rw [hc]
      clear hx hy hc hla hlb hsz hsz2 e1 e2
      go_enter Tryz.func292, Tryz.ntmps292
      go_wp2
      refine wp_loop_rounds 1 ?_
      rw [rounds_succ]
      go_wp2
      go_ret
      exact ⟨rfl, Dr.refl _⟩
    · obtain ⟨b, o, rfl, hc⟩ := hx.open_ (by omega)
      obtain ⟨b', o', rfl, hd⟩ := hy.open_ (by omega)
      exact under_cells (dig n) (dig m) b o b' o' la ca cb _ w hla.symm hlb.symm (by omega) (by omega) (Wf_dig n) (Wf_dig m) (by rw [val_dig, val_dig]) hc hd
  · have hc : cmpN n m = 1 := by have := dig_len_lt m n (by omega); rw [cmpN, if_neg (by omega), if_pos this]
    rw [hc]
    rw [← hla] at hsz
    rw [← hlb] at hsz2
    clear hx hy hc hla hlb
    go_enter Tryz.func292, Tryz.ntmps292
    go_wp2
    go_ret
    exact ⟨rfl, Dr.refl _⟩
end
section
open Go.RowKit

theorem more_core (A B : Option Addr) (la ca lb cb : Nat) (xs ys : List Nat) (v0 v1 : Value) (w : World) (hx : Words w (.slice A la ca) xs) (hy : Words w (.slice B lb cb) ys) (hsz : la ≤ 8589934592)
    (hv : (v0 = .slice A la ca ∧ v1 = .slice B lb cb ∧ lb ≤ la) ∨ (v1 = .slice A la ca ∧ v0 = .slice B lb cb ∧ lb < la)) :
    Calls Tryz.prog 303 #[v0, v1] w fun e w' => ∃ v zs, e = .returned v ∧ Words w' v zs ∧ val zs = val xs + val ys ∧ Below w.heap.size w w' := by
  have hla := Lib.hid hx.len.1
  have hlb := Lib.hid hy.len.1
  have HA := Lib.hid hx
  have HB := Lib.hid hy
  have hwx := Lib.hid hx.1
  have hwy := Lib.hid hy.1
  clear hx hy
  rcases hv with ⟨rfl, rfl, hle⟩ | ⟨rfl, rfl, hle⟩
  all_goals
    go_enter Tryz.func303, Tryz.ntmps303
    go_wp2_with (at_make; refine wpList_make_words rfl _ _ rfl _ _ _ _ (la + 1) (la + 1) rfl rfl (by omega) (by omega) (Nat.le_refl _) (by omega) ?_)
    intro w1 hbuf hb1 hz1
    have HZ := Lib.hid hz1
    clear hz1
    go_wp2
    go_loopw [6, 22] (fun c i wr => ∃ (k d : Nat) (zs : List Nat), k ≤ la ∧ d ≤ 1 ∧ c = .int .u64 (d : Int) ∧ i = .int .i64 (k : Int) ∧ Hid (zs.length = k) ∧ Hid (val zs + 4294967296 ^ k * d = val (xs.take k) + val (ys.take k)) ∧ Buf wr w.heap.size (zs ++ List.replicate (la + 1 - k) 0) ∧ Below w.heap.size w wr) (fun _ i _ => la - (intOf i).toNat)
    case atStart => exact ⟨0, 0, [], by omega, by omega, rfl, rfl, rfl, by simp [Hid, val], by simpa using hbuf, hb1⟩
    case round =>
      obtain ⟨k, d, zs, hk, hd, rfl, rfl, HK, HV, hbuf', hb'⟩ := hrel
      have hlt := hb'.size
      have hblt := hbuf'.lt
      clear hbuf hb1 HZ
      by_cases hk1 : k < la
      · have hX := (HA.out.below hb')
        obtain ⟨b, o, rfl, hcx⟩ := hX.open_ (by omega)
        have hcx := hcx k hk1
        have hxl : ((xs[k]?.getD 0 : Nat) : Int) < 4294967296 := by have := hwx.out.get? k; omega
        have hst := hbuf'.cell k (by rw [List.length_append, HK.out, List.length_replicate]; omega)
        have hfz := hbuf'.frozen k
        have HBUF := Lib.hid hbuf'
        clear hX hbuf'
        by_cases hk2 : k < lb
        · have hY := (HB.out.below hb')
          obtain ⟨b2, o2, rfl, hcy⟩ := hY.open_ (by omega)
          have hcy := hcy k hk2
          have hyl : ((ys[k]?.getD 0 : Nat) : Int) < 4294967296 := by have := hwy.out.get? k; omega
          clear hY
          go_wp2
          go_roundw
          case rel =>
            refine ⟨k + 1, (d + xs.getD k 0 + ys.getD k 0) / 4294967296, zs ++ [(d + xs.getD k 0 + ys.getD k 0) % 4294967296], by omega, by simp only [List.getD]; omega, ?_, rfl, ?_, more_val _ _ _ _ _ _ HK.out HV.out rfl, ?_, hb'.setCell (Nat.le_refl _) _⟩
            · simp only [List.getD]; go_num
            · rw [Hid, List.length_append, HK.out]; rfl
            · have := HBUF.out.push HK.out (by omega) ((d + xs.getD k 0 + ys.getD k 0) % 4294967296) _ (by omega) (by simp only [List.getD]; try go_num)
              rw [show la + 1 - k - 1 = la + 1 - (k + 1) from by omega] at this
              exact this
          case measure => simp [intOf]; omega
        · have hy0 : ys.getD k 0 = 0 := getD_out (by have := hlb.out; omega)
          have HY0 := Lib.hid hy0
          clear hy0
          go_wp2
          go_roundw
          case rel =>
            refine ⟨k + 1, (d + xs.getD k 0 + ys.getD k 0) / 4294967296, zs ++ [(d + xs.getD k 0 + ys.getD k 0) % 4294967296], by omega, by rw [HY0.out]; simp only [List.getD]; omega, ?_, rfl, ?_, more_val _ _ _ _ _ _ HK.out HV.out rfl, ?_, hb'.setCell (Nat.le_refl _) _⟩
            · rw [HY0.out]; simp only [List.getD]; go_num
            · rw [Hid, List.length_append, HK.out]; rfl
            · have := HBUF.out.push HK.out (by omega) ((d + xs.getD k 0 + ys.getD k 0) % 4294967296) _ (by omega) (by rw [HY0.out]; try (simp only [List.getD]; try go_num))
              rw [show la + 1 - k - 1 = la + 1 - (k + 1) from by omega] at this
              exact this
          case measure => simp [intOf]; omega
      · obtain rfl : k = la := by omega
        have hst := hbuf'.cell k (by rw [List.length_append, HK.out, List.length_replicate]; omega)
        have hfz := hbuf'.frozen k
        have HBUF := Lib.hid hbuf'
        clear hbuf'
        go_wp2
        go_ret
        have hpush := HBUF.out.push HK.out (by omega) d _ (by omega) (by go_num)
        rw [show k + 1 - k - 1 = 0 from by omega, List.replicate_zero, List.append_nil] at hpush
        have hlen : (zs ++ [d]).length = k + 1 := by rw [List.length_append, HK.out]; rfl
        have hw := hpush.words (cap := k + 1) (by rw [hlen]; omega) (by rw [hlen]; exact Nat.le_refl _)
        rw [hlen] at hw
        refine ⟨_, _, rfl, hw, ?_, hb'.setCell (Nat.le_refl _) _⟩
        have h1 := HV.out
        rw [val_snoc, HK.out, h1, val_take_all _ _ (by rw [hla.out]; exact Nat.le_refl _), val_take_all _ _ (by rw [← hlb.out]; omega)]

theorem more_any {A B : Option Addr} {la ca lb cb : Nat} {xs ys : List Nat} {w : World} (hx : Words w (.slice A la ca) xs) (hy : Words w (.slice B lb cb) ys) (h1 : la ≤ 8589934592) (h2 : lb ≤ 8589934592) :
    Calls Tryz.prog 303 #[.slice A la ca, .slice B lb cb] w fun e w' => ∃ v zs, e = .returned v ∧ Words w' v zs ∧ val zs = val xs + val ys ∧ Below w.heap.size w w' := by
  rcases Nat.lt_or_ge la lb with h | h
  · refine (more_core B A lb cb la ca ys xs _ _ w hy hx h2 (.inr ⟨rfl, rfl, h⟩)).mono fun e w' ⟨v, zs, r1, r2, r3, r4⟩ => ⟨v, zs, r1, r2, by omega, r4⟩
  · exact more_core A B la ca lb cb xs ys _ _ w hx hy h1 (.inl ⟨rfl, rfl, h⟩)

theorem less_any {A B : Option Addr} {la ca lb cb : Nat} {xs ys : List Nat} {w : World} (hx : Words w (.slice A la ca) xs) (hy : Words w (.slice B lb cb) ys) (hsz : la ≤ 8589934592) (hle : val ys ≤ val xs) (hlen : lb ≤ la) :
    Calls Tryz.prog 304 #[.slice A la ca, .slice B lb cb] w fun e w' => ∃ v zs, e = .returned v ∧ Words w' v zs ∧ val zs = val xs - val ys ∧ Below w.heap.size w w' := by
  have hla := Lib.hid hx.len.1
  have hlb := Lib.hid hy.len.1
  have HA := Lib.hid hx
  have HB := Lib.hid hy
  have hwx := Lib.hid hx.1
  have hwy := Lib.hid hy.1
  have HL := Lib.hid hle
  clear hx hy hle
  go_enter Tryz.func304, Tryz.ntmps304
  go_wp2_with (at_make; refine wpList_make_words rfl _ _ rfl _ _ _ _ la la rfl rfl rfl rfl (Nat.le_refl _) (by omega) ?_)
  intro w1 hbuf hb1 hz1
  have HZ := Lib.hid hz1
  clear hz1
  go_wp2
  go_loopw [6, 16] (fun c i wr => ∃ (k d : Nat) (zs : List Nat), k ≤ la ∧ d ≤ 1 ∧ c = .int .u64 (d : Int) ∧ i = .int .i64 (k : Int) ∧ Hid (zs.length = k) ∧ Hid (val zs + val (ys.take k) = val (xs.take k) + 4294967296 ^ k * d) ∧ Buf wr w.heap.size (zs ++ List.replicate (la - k) 0) ∧ Below w.heap.size w wr) (fun _ i _ => la - (intOf i).toNat)
  case atStart => exact ⟨0, 0, [], by omega, by omega, rfl, rfl, rfl, by simp [Hid, val], by simpa using hbuf, hb1⟩
  case round =>
    obtain ⟨k, d, zs, hk, hd, rfl, rfl, HK, HV, hbuf', hb'⟩ := hrel
    have hlt := hb'.size
    have hblt := hbuf'.lt
    clear hbuf hb1 HZ
    by_cases hk1 : k < la
    · have hX := (HA.out.below hb')
      obtain ⟨b, o, rfl, hcx⟩ := hX.open_ (by omega)
      have hcx := hcx k hk1
      have hxl := hwx.out.get? k
      have hst := hbuf'.cell k (by rw [List.length_append, HK.out, List.length_replicate]; omega)
      have hfz := hbuf'.frozen k
      have HBUF := Lib.hid hbuf'
      clear hX hbuf'
      by_cases hk2 : k < lb
      · have hY := (HB.out.below hb')
        obtain ⟨b2, o2, rfl, hcy⟩ := hY.open_ (by omega)
        have hcy := hcy k hk2
        have hyl := hwy.out.get? k
        obtain ⟨D, z, d', hD, hDz, hDd, hz, hd', he⟩ := sub_word (xs[k]?.getD 0) (d + ys[k]?.getD 0) hxl (by omega)
        have HE := Lib.hid he
        clear hY he
        rw [Int.natCast_add] at hD
        go_wp2
        go_roundw
        case rel =>
          refine ⟨k + 1, d', zs ++ [z], by omega, hd', rfl, rfl, ?_, less_val _ _ _ _ _ _ _ HK.out HV.out (by simpa only [List.getD] using HE.out), ?_, hb'.setCell (Nat.le_refl _) _⟩
          · rw [Hid, List.length_append, HK.out]; rfl
          · have := HBUF.out.push HK.out (by omega) z _ (by omega) rfl
            rw [show la - k - 1 = la - (k + 1) from by omega] at this
            exact this
        case measure => simp [intOf]; omega
      · have hy0 : ys.getD k 0 = 0 := getD_out (by have := hlb.out; omega)
        have HY0 := Lib.hid hy0
        obtain ⟨D, z, d', hD, hDz, hDd, hz, hd', he⟩ := sub_word (xs[k]?.getD 0) d hxl (by omega)
        have HE := Lib.hid he
        clear hy0 he
        go_wp2
        go_roundw
        case rel =>
          refine ⟨k + 1, d', zs ++ [z], by omega, hd', rfl, rfl, ?_, less_val _ _ _ _ _ _ _ HK.out HV.out (by rw [HY0.out, Nat.add_zero]; simpa only [List.getD] using HE.out), ?_, hb'.setCell (Nat.le_refl _) _⟩
          · rw [Hid, List.length_append, HK.out]; rfl
          · have := HBUF.out.push HK.out (by omega) z _ (by omega) rfl
            rw [show la - k - 1 = la - (k + 1) from by omega] at this
            exact this
        case measure => simp [intOf]; omega
    · obtain rfl : k = la := by omega
      rw [Nat.sub_self, List.replicate_zero, List.append_nil] at hbuf'
      have hw := hbuf'.words (cap := k) (by rw [HK.out]; omega) (by rw [HK.out]; exact Nat.le_refl _)
      have hzw := hbuf'.1
      rw [HK.out] at hw
      have HW := Lib.hid hw
      clear hw hbuf'
      go_wp2
      go_ret
      refine ⟨_, _, rfl, HW.out, less_end xs ys zs k d hzw HK.out ?_ HL.out hd, hb'⟩
      have h1 := HV.out
      rw [val_take_all ys _ (by rw [← hlb.out]; omega), val_take_all xs _ (by rw [hla.out]; exact Nat.le_refl _)] at h1
      exact h1
end
section
open Go.RowKit

set_option maxHeartbeats 1000000 in
theorem product_any {A B : Option Addr} {la ca lb cb : Nat} {xs ys : List Nat} {w : World} (hx : Words w (.slice A la ca) xs) (hy : Words w (.slice B lb cb) ys) (h1 : la ≤ 8589934592) (h2 : lb ≤ 8589934592) :
    Calls Tryz.prog 283 #[.slice A la ca, .slice B lb cb] w fun e w' => ∃ v zs, e = .returned v ∧ Words w' v zs ∧ val zs = val xs * val ys ∧ Below w.heap.size w w' := by
  have hla := Lib.hid hx.len.1
  have hlb := Lib.hid hy.len.1
  have HA := Lib.hid hx
  have HB := Lib.hid hy
  have hwx := Lib.hid hx.1
  have hwy := Lib.hid hy.1
  clear hx hy
  go_enter Tryz.func283, Tryz.ntmps283
  go_wp2_with (at_make; refine wpList_make_words rfl _ _ rfl _ _ _ _ (la + lb) (la + lb) rfl rfl (by omega) (by omega) (Nat.le_refl _) (by omega) ?_)
  intro w1 hbuf hb1 hz1
  have HZ := Lib.hid hz1
  clear hz1
  go_wp2
  go_loopw [19] (fun i wr => ∃ (k : Nat) (os : List Nat), k ≤ la ∧ i = .int .i64 (k : Int) ∧ Hid (os.length = la + lb) ∧ Hid (val os = val (xs.take k) * val ys) ∧ Hid (∀ j, k + lb ≤ j → os.getD j 0 = 0) ∧ Buf wr w.heap.size os ∧ Below w.heap.size w wr) (fun i _ => la - (intOf i).toNat)
  case atStart => exact ⟨0, List.replicate (la + lb) 0, by omega, rfl, by simp [Hid], by simp [Hid, val, val_zeros], fun j _ => by simp [List.getD, List.getElem?_replicate]; split <;> rfl, hbuf, hb1⟩
  case round =>
    obtain ⟨i, os, hi, rfl, HK, HV, H0, hbuf', hb'⟩ := hrel
    obtain ⟨wo, rfl⟩ : ∃ wo : World, wo = wr := ⟨_, rfl⟩
    clear hbuf hb1 HZ
    by_cases hk1 : i < la
    · have hX := (HA.out.below hb')
      obtain ⟨b, o, rfl, hcx⟩ := hX.open_ (by omega)
      have hcx := hcx i hk1
      have hxl := hwx.out.get? i
      have HBUF := Lib.hid hbuf'
      clear hX hbuf'
      go_wp2
      go_loopw [8, 26] (fun c j wr => ∃ (k d : Nat) (os' : List Nat), k ≤ lb ∧ d < 4294967296 ∧ c = .int .u64 (d : Int) ∧ j = .int .i64 (k : Int) ∧ Hid (os'.length = la + lb) ∧ Hid (val os' + 4294967296 ^ (i + k) * d = val os + 4294967296 ^ i * (xs.getD i 0 * val (ys.take k))) ∧ Hid (∀ j, i + lb ≤ j → os'.getD j 0 = 0) ∧ Buf wr w.heap.size os' ∧ Below w.heap.size w wr) (fun _ j _ => lb - (intOf j).toNat)
      case atStart => exact ⟨0, 0, os, by omega, by omega, rfl, rfl, HK, by simp [Hid, val], H0, HBUF.out, hb'⟩
      case round =>
        obtain ⟨k, d, os', hk, hd, rfl, rfl, HK', HV', H0', hbuf2, hb2⟩ := hrel
        have hlt := hb2.size
        have hblt := hbuf2.lt
        clear hb' hcx
        by_cases hk2 : k < lb
        · have hY := (HB.out.below hb2)
          obtain ⟨b2, o2, rfl, hcy⟩ := hY.open_ (by omega)
          have hcy := hcy k hk2
          have hyl := hwy.out.get? k
          have hst := hbuf2.cell (i + k) (by rw [HK'.out]; omega)
          have hfz := hbuf2.frozen (i + k)
          have hol := hbuf2.1.get? (i + k)
          obtain ⟨m, hm⟩ : ∃ m, m = xs[i]?.getD 0 * ys[k]?.getD 0 := ⟨_, rfl⟩
          have hmb : m ≤ 18446744065119617025 := by rw [hm]; exact mul_word _ _ hxl hyl
          have hmi : ((xs[i]?.getD 0 : Nat) : Int) * ((ys[k]?.getD 0 : Nat) : Int) = (m : Int) := by rw [hm]; exact (Int.natCast_mul _ _).symm
          have HM := Lib.hid hm
          have HBUF2 := Lib.hid hbuf2
          clear hY hbuf2 hm HBUF
          go_wp2
          go_roundw
          case rel =>
            refine ⟨k + 1, (d + (m + os'.getD (i + k) 0)) / 4294967296, os'.set (i + k) ((d + (m + os'.getD (i + k) 0)) % 4294967296), by omega, by simp only [List.getD]; omega, by simp only [List.getD]; go_num, rfl, ?_, ?_, ?_, ?_, hb2.setCell (Nat.le_refl _) _⟩
            · rw [Hid, List.length_set]; exact HK'.out
            · exact prod_val os os' ys i k d (xs.getD i 0) _ (by rw [HK'.out]; omega) HV'.out (by rw [HM.out]; rfl)
            · intro j hj
              rw [getD_set, if_neg (by omega)]
              exact H0'.out j hj
            · exact HBUF2.out.set (i + k) _ _ (by omega) (by simp only [List.getD]; go_num)
          case measure => simp [intOf]; omega
        · obtain rfl : k = lb := by omega
          have hst := hbuf2.cell (i + k) (by rw [HK'.out]; omega)
          have hfz := hbuf2.frozen (i + k)
          have HBUF2 := Lib.hid hbuf2
          clear hbuf2 HBUF
          go_wp2
          go_roundw
          case rel =>
            refine ⟨i + 1, os'.set (i + k) d, by omega, rfl, ?_, ?_, ?_, HBUF2.out.set (i + k) d _ hd (by go_num), hb2.setCell (Nat.le_refl _) _⟩
            · rw [Hid, List.length_set]; exact HK'.out
            · have h1 := HV'.out
              rw [val_take_all ys k (by rw [hlb.out]; exact Nat.le_refl _)] at h1
              have hl := hlb.out
              have h2 := H0'.out (i + k) (Nat.le_refl _)
              rw [hl] at h1 h2 ⊢
              exact prod_end os os' xs ys i d (by rw [HK'.out]; omega) h2 HV.out h1
            · intro j hj
              rw [getD_set]
              split
              · omega
              · exact H0'.out j (by omega)
          case measure => simp [intOf]; omega
    · obtain rfl : i = la := by omega
      have hw := hbuf'.words (cap := i + lb) (by rw [HK.out]; omega) (by rw [HK.out]; exact Nat.le_refl _)
      rw [HK.out] at hw
      have HW := Lib.hid hw
      clear hw hbuf'
      go_wp2
      go_ret
      refine ⟨_, _, rfl, HW.out, ?_, hb'⟩
      rw [HV.out, val_take_all xs _ (by rw [hla.out]; exact Nat.le_refl _)]
end
section
open Go.RowKit


theorem left_any {A : Option Addr} {la ca : Nat} {xs : List Nat} {w : World} (hx : Words w (.slice A la ca) xs) (h1 : la ≤ 8589934592) (n : Nat) (hn : n ≤ 137438953472) :
    Calls Tryz.prog 308 #[.slice A la ca, .int .i64 (n : Int)] w fun e w' => ∃ v, e = .returned v ∧ Words w' v (dig (val xs * 2 ^ n)) ∧ Below w.heap.size w w' := by
  have hla := Lib.hid hx.len.1
  have HA := Lib.hid hx
  have hwx := Lib.hid hx.1
  clear hx
  obtain ⟨s, hs⟩ : ∃ s, s = n % 32 := ⟨_, rfl⟩
  have hs32 : s < 32 := by omega
  have hsi : (n : Int) % 32 = (s : Int) := by omega
  have HS := Lib.hid hs
  clear hs
  go_enter Tryz.func308, Tryz.ntmps308
  go_wp2_with (at_make; refine wpList_make_words rfl _ _ rfl _ _ _ _ (n / 32) (n / 32 + la + 1) rfl rfl (by omega) (by omega) (by omega) (by omega) ?_)
  intro w1 hbuf hb1 hz1
  have HROW := Lib.hid (Row.of_buf (n := n / 32) hbuf (Nat.le_refl _) (by omega) (by omega))
  have HZ := Lib.hid hz1
  clear hz1 hbuf
  go_wp2
  go_loopw [5, 6, 20] (fun v c i wr => ∃ (k d : Nat) (ys : List Nat), k ≤ la ∧ Hid (d < 2 ^ s) ∧ c = .int .u64 (d : Int) ∧ i = .int .i64 (k : Int) ∧ Hid (ys.length = k) ∧ Hid (val ys + 4294967296 ^ k * d = val (xs.take k) * 2 ^ s) ∧ Hid (Row wr w.heap.size v (List.replicate (n / 32) 0 ++ ys)) ∧ Below w.heap.size w wr) (fun _ _ i _ => la - (intOf i).toNat)
  case atStart => exact ⟨0, 0, [], by omega, Nat.two_pow_pos _, rfl, rfl, rfl, by simp [Hid, val], by simpa [Hid] using HROW.out, hb1⟩
  case round =>
    obtain ⟨k, d, ys, hk, HD, rfl, rfl, HK, HV, hrow', hb'⟩ := hrel
    have hlt := hb'.size
    clear HROW hb1 HZ
    by_cases hk1 : k < la
    · have hX := (HA.out.below hb')
      obtain ⟨b, o, rfl, hcx⟩ := hX.open_ (by omega)
      have hcx := hcx k hk1
      have hxl := hwx.out.get? k
      obtain ⟨m, hm⟩ : ∃ m, m = xs[k]?.getD 0 * 2 ^ s := ⟨_, rfl⟩
      have hmi : ((xs[k]?.getD 0 : Nat) : Int) * 2 ^ s = (m : Int) := by rw [hm, Int.natCast_mul, Int.natCast_pow]; rfl
      have hmb := mul_two_pow_lt (xs[k]?.getD 0) s hxl (by omega)
      rw [← hm] at hmb
      have hsp : 2 ^ s ≤ 2 ^ 32 := Nat.pow_le_pow_right (by omega) (by omega)
      have hp := Nat.two_pow_pos s
      have hd1 := HD.out
      have hm1 : m ≤ 18446744073709551615 := by omega
      have hd2 : d ≤ 4294967296 := by omega
      have hor : bits BinOp.or IntKind.u64 (d : Int) (m : Int) = ((d + m : Nat) : Int) := by rw [bits_or_u64_nat d m (by omega) (by omega), hm, or_add _ _ _ hd1]
      rw [Int.natCast_add] at hor
      have hsum : d + m ≤ 18446744073709551615 := by omega
      have HM := Lib.hid hm
      clear hX hm hmb hsp hp hd1
      go_wp2_with (at_builtin; refine wpList_append_word rfl (.tmp 31) (.tmp 34) rfl w.heap.size _ (List.replicate (n / 32) 0 ++ ys) rfl (hrow'.out.alloc _) ⟨wr.heap.size, 0, none⟩ 1 ((d + m) % 4294967296) _ rfl (cell_new0 _ _ _) ?_ (by omega) ?_ ?_ ?_)
      · omega
      · simp only [List.length_append, List.length_replicate, HK.out]; omega
      · simp; omega
      · intro v' w' hrow2 hb2
        have HR2 := Lib.hid hrow2
        have hb3 : Below w.heap.size w w' := (hb'.alloc (by omega) _).trans hb2
        clear hrow2 hb2 hb'
        go_wp2
        go_roundw
        case rel =>
          refine ⟨k + 1, (d + m) / 4294967296, ys ++ [(d + m) % 4294967296], by omega, ?_, by go_num, rfl, ?_, ?_, HR2.out, hb3⟩
          · rw [Hid, HM.out]; exact left_carry _ s d hxl (by omega) HD.out
          · rw [Hid, List.length_append, HK.out]; rfl
          · exact left_val xs ys k d s _ HK.out HV.out (by rw [HM.out]; rfl)
        case measure => simp [intOf]; omega
    · obtain rfl : k = la := by omega
      have hsp : 2 ^ s ≤ 2 ^ 32 := Nat.pow_le_pow_right (by omega) (by omega)
      have hd1 : d < 4294967296 := by have := HD.out; omega
      clear hsp
      go_wp2_with (at_builtin; refine wpList_append_word rfl (.tmp 39) (.tmp 42) rfl w.heap.size _ (List.replicate (n / 32) 0 ++ ys) rfl (hrow'.out.alloc _) ⟨wr.heap.size, 0, none⟩ 1 d _ rfl (cell_new0 _ _ _) ?_ hd1 ?_ ?_ ?_)
      · omega
      · simp only [List.length_append, List.length_replicate, HK.out]; omega
      · simp; omega
      · intro v' w' hrow2 hb2
        have hb3 : Below w.heap.size w w' := (hb'.alloc (by omega) _).trans hb2
        have hw := hrow2.words (by simp only [List.length_append, List.length_replicate, HK.out, List.length_cons, List.length_nil]; omega)
        have HW := Lib.hid hw
        obtain ⟨A', L', cap', rfl⟩ := hw.form
        clear hrow2 hb2 hb' hw
        go_wp2_with (go_at_call 302; refine (cut_any HW.out).mono ?_; rintro e w2 ⟨rfl, rfl⟩)
        go_ret
        refine ⟨_, rfl, ?_, hb3⟩
        have h2 := HW.out.trim_
        have h3 : trim (List.replicate (n / 32) 0 ++ (ys ++ [d])) = dig (val xs * 2 ^ n) := by
          refine dig_of _ _ HW.out.1 (left_end xs ys n d ?_)
          have := HV.out
          rw [val_take_all xs _ (by rw [hla.out]; exact Nat.le_refl _), HS.out] at this
          rw [HK.out]; exact this
        rw [← h3]
        exact h2

/-- Two words as one number of 64 bits. -/
theorem or_two (a x : Nat) (ha : a < 4294967296) (hx : x < 4294967296) : bits BinOp.or IntKind.u64 ((a : Int) * 4294967296) (x : Int) = ((a * 4294967296 + x : Nat) : Int) := by
  have := bits_or_u64_nat (a * 4294967296) x (by omega) (by omega)
  rw [or_word a x hx] at this
  rw [← this]; rfl
theorem or_two' (a x : Nat) (ha : a < 4294967296) (hx : x < 4294967296) : bits BinOp.or IntKind.u64 (x : Int) ((a : Int) * 4294967296) = ((a * 4294967296 + x : Nat) : Int) := by
  have := bits_or_u64_nat x (a * 4294967296) (by omega) (by omega)
  rw [Nat.or_comm, or_word a x hx] at this
  rw [← this]; rfl

theorem short_any {A : Option Addr} {la ca : Nat} {xs : List Nat} {w : World} (hx : Words w (.slice A la ca) xs) (h1 : la ≤ 17179869184) (d : Nat) (hd0 : 0 < d) (hd : d < 4294967296) :
    Calls Tryz.prog 310 #[.slice A la ca, .int .u32 (d : Int)] w fun e w' => ∃ v, e = .returned (.tuple #[v, .int .u32 ((val xs % d : Nat) : Int)]) ∧ Words w' v (dig (val xs / d)) ∧ Below w.heap.size w w' := by
  have hla := Lib.hid hx.len.1
  have HA := Lib.hid hx
  have hwx := Lib.hid hx.1
  clear hx
  have hd1 : (1 : Int) ≤ (d : Int) := by omega
  go_enter Tryz.func310, Tryz.ntmps310
  go_wp2_with (at_make; refine wpList_make_words rfl _ _ rfl _ _ _ _ la la rfl rfl rfl rfl (by omega) (by omega) ?_)
  intro w1 hbuf hb1 hz1
  have HZ := Lib.hid hz1
  clear hz1
  go_wp2
  go_loopw [7, 8] (fun c i wr => ∃ (k r : Nat) (qs : List Nat), k ≤ la ∧ r < d ∧ c = .int .u64 (r : Int) ∧ i = .int .i64 ((k : Int) - 1) ∧ Hid (qs.length = la - k) ∧ Hid (val qs * d + r = val (xs.drop k)) ∧ Buf wr w.heap.size (List.replicate k 0 ++ qs) ∧ Below w.heap.size w wr) (fun _ i _ => (intOf i + 1).toNat)
  case atStart => exact ⟨la, 0, [], by omega, hd0, rfl, rfl, by simp [Hid], by rw [Hid, List.drop_of_length_le (by rw [hla.out]; exact Nat.le_refl _)]; simp [val], by simpa using hbuf, hb1⟩
  case round =>
    obtain ⟨k, r, qs, hk, hr, rfl, rfl, HK, HV, hbuf', hb'⟩ := hrel
    have hlt := hb'.size
    have hblt := hbuf'.lt
    clear hbuf hb1 HZ
    by_cases hk0 : 0 < k
    · obtain ⟨k, rfl⟩ : ∃ j, k = j + 1 := ⟨k - 1, by omega⟩
      have e1 : ((k + 1 : Nat) : Int) - 1 = (k : Int) := by omega
      rw [e1]
      clear e1
      have hX := (HA.out.below hb')
      obtain ⟨b, o, rfl, hcx⟩ := hX.open_ (by omega)
      have hcx := hcx k (by omega)
      have hxl := hwx.out.get? k
      have hst := hbuf'.cell k (by rw [List.length_append, HK.out, List.length_replicate]; omega)
      have hfz := hbuf'.frozen k
      have HBUF := Lib.hid hbuf'
      have hor := or_two r (xs[k]?.getD 0) (by omega) hxl
      obtain ⟨t, ht⟩ : ∃ t, t = r * 4294967296 + xs[k]?.getD 0 := ⟨_, rfl⟩
      rw [← ht] at hor
      have htb : t ≤ 18446744073709551615 := by omega
      obtain ⟨q, hqd⟩ : ∃ q, q = t / d := ⟨_, rfl⟩
      obtain ⟨r', hrd⟩ : ∃ r', r' = t % d := ⟨_, rfl⟩
      have hq : ((t : Int) / (d : Int)) = (q : Int) := by rw [hqd]; rfl
      have hq2 : ((t : Int) % (d : Int)) = (r' : Int) := by rw [hrd]; rfl
      have hqb : q ≤ 4294967295 := by have := short_word r d (xs[k]?.getD 0) hr hxl; rw [← ht, ← hqd] at this; omega
      have hrb : r' < d := by rw [hrd]; exact Nat.mod_lt _ hd0
      have HQ := Lib.hid hqd
      have HR := Lib.hid hrd
      have HT := Lib.hid ht
      have hk1 : (0 : Int) ≤ (k : Int) := by omega
      clear hX hbuf' ht hqd hrd
      go_wp2
      go_roundw
      case rel =>
        refine ⟨k, r', q :: qs, by omega, hrb, by rw [hq2], rfl, ?_, by rw [HQ.out, HR.out]; exact short_val xs qs k r d t (by have := hla.out; omega) HV.out (by rw [HT.out]; rfl), ?_, hb'.setCell (Nat.le_refl _) _⟩
        · rw [Hid, List.length_cons, HK.out]; omega
        · have := HBUF.out.set k q _ (by omega) rfl
          rw [set_zero_append] at this
          exact this
      case measure => simp [intOf]
    · obtain rfl : k = 0 := by omega
      rw [List.replicate_zero, List.nil_append] at hbuf'
      have hw := hbuf'.words (cap := la) (by rw [HK.out]; omega) (by rw [HK.out]; omega)
      rw [HK.out, Nat.sub_zero] at hw
      have HW := Lib.hid hw
      have hend := Lib.hid (short_end xs qs r d hr (by have := HV.out; rwa [List.drop_zero] at this))
      clear hbuf' hw
      go_wp2_with (go_at_call 302; refine (cut_any HW.out).mono ?_; rintro e w2 ⟨rfl, rfl⟩)
      go_ret2
      refine ⟨.slice (some ⟨w.heap.size, 0, none⟩) (trim qs).length la, ?_, ?_, hb'⟩
      · rw [← hend.out.2]; rfl
      · rw [← dig_of qs _ HW.out.1 hend.out.1]
        exact HW.out.trim_

theorem right_any {A : Option Addr} {la ca : Nat} {xs : List Nat} {w : World} (hx : Words w (.slice A la ca) xs) (h1 : la ≤ 17179869184) (n : Nat) (hn : n ≤ 1099511627776) :
    Calls Tryz.prog 309 #[.slice A la ca, .int .i64 (n : Int)] w fun e w' => ∃ v, e = .returned v ∧ Words w' v (dig (val xs / 2 ^ n)) ∧ Below w.heap.size w w' := by
  have hla := Lib.hid hx.len.1
  have hlc := hx.len.2
  by_cases h0 : la ≤ n / 32
  · have HE := Lib.hid (shr_none xs n hx.1 (by rw [← hla.out]; exact h0))
    have h0' : (la : Int) ≤ (n : Int) / 32 := by omega
    clear hx
    go_enter Tryz.func309, Tryz.ntmps309
    go_wp2
    go_ret
    refine ⟨_, rfl, ?_, Below.refl _ _⟩
    rw [HE.out, dig_zero]
    exact Words.nil w
  · have h0' : (n : Int) / 32 < (la : Int) := by omega
    obtain ⟨s, hs⟩ : ∃ s, s = n % 32 := ⟨_, rfl⟩
    have hs32 : s < 32 := by omega
    have hsi : (n : Int) % 32 = (s : Int) := by omega
    obtain ⟨q, hq⟩ : ∃ q, q = n / 32 := ⟨_, rfl⟩
    have hqi : (n : Int) / 32 = (q : Int) := by omega
    have hqla : q < la := by omega
    have HE := shr_words xs n hx.1 (by rw [← hla.out]; omega)
    rw [← hs, ← hq] at HE
    have hd := Words.drop (xs := xs) (by have := hx; rw [hla.out] at this; exact this) q (by rw [← hla.out]; omega)
    rw [← hla.out] at hd
    obtain ⟨b, o, rfl, _⟩ := hx.open_ (by omega)
    have hadd : (Option.map (fun x : Addr => x.add q) (some ⟨b, o, none⟩) : Option Addr) = some ⟨b, o + q, none⟩ := by
      simp only [Option.map_some, Addr.add]
      split
      · rename_i h; subst h; rfl
      · rfl
    rw [hadd] at hd
    have HD := Lib.hid hd
    have hwy := Lib.hid hd.1
    have hly := Lib.hid hd.len.1
    have HE2 := Lib.hid HE
    obtain ⟨ys, hys⟩ : ∃ ys, ys = xs.drop q := ⟨_, rfl⟩
    rw [← hys] at HD hwy hly HE2
    clear hx hadd hd HE hs hq hys h0 h0'
    go_enter Tryz.func309, Tryz.ntmps309
    go_wp2_with (at_make; refine wpList_make_words rfl _ _ rfl _ _ _ _ (la - q) (la - q) rfl rfl (by omega) (by omega) (by omega) (by omega) ?_)
    intro w1 hbuf hb1 hz1
    have HZ := Lib.hid hz1
    clear hz1
    go_wp2
    go_loopw [23] (fun i wr => ∃ (k : Nat), k ≤ la - q ∧ i = .int .i64 (k : Int) ∧ Buf wr w.heap.size ((shrL s ys).take k ++ List.replicate (la - q - k) 0) ∧ Below w.heap.size w wr) (fun i _ => la - q - (intOf i).toNat)
    case atStart => exact ⟨0, by omega, rfl, by simpa using hbuf, hb1⟩
    case round =>
      obtain ⟨k, hk, rfl, hbuf', hb'⟩ := hrel
      have hlt := hb'.size
      have hblt := hbuf'.lt
      clear hbuf hb1 HZ
      have hkl : ((shrL s ys).take k).length = k := by rw [List.length_take, shrL_length, ← hly.out]; omega
      by_cases hk1 : k < la - q
      · have hki : (k : Int) < ((la - q : Nat) : Int) := by omega
        have hX := (HD.out.below hb')
        obtain ⟨b', o', he', hcx⟩ := hX.open_ (by omega)
        injection he' with he'
        injection he' with e1 e2 _
        subst e1 e2
        have hcx1 := hcx k (by omega)
        have hxl := hwy.out.get? k
        have hst := hbuf'.cell k (by rw [List.length_append, hkl, List.length_replicate]; omega)
        have hfz := hbuf'.frozen k
        have HBUF := Lib.hid hbuf'
        have HKL := Lib.hid hkl
        clear hX hbuf' hkl
        by_cases hk2 : k + 1 < la - q
        · have hki2 : (k : Int) + 1 < ((la - q : Nat) : Int) := by omega
          have hcx2 := hcx (k + 1) hk2
          have hxl2 := hwy.out.get? (k + 1)
          have hor := or_two' (ys[k + 1]?.getD 0) (ys[k]?.getD 0) hxl2 hxl
          obtain ⟨t, ht⟩ : ∃ t, t = ys[k + 1]?.getD 0 * 4294967296 + ys[k]?.getD 0 := ⟨_, rfl⟩
          rw [← ht] at hor
          have htb : t ≤ 18446744073709551615 := by omega
          obtain ⟨u, hu⟩ : ∃ u, u = t / 2 ^ s := ⟨_, rfl⟩
          have hui : (t : Int) / 2 ^ s = (u : Int) := by rw [hu, Int.natCast_ediv, Int.natCast_pow]; rfl
          have HU := Lib.hid hu
          have HT := Lib.hid ht
          clear hcx hu ht
          go_wp2
          go_roundw
          case rel =>
            refine ⟨k + 1, by omega, rfl, ?_, hb'.setCell (Nat.le_refl _) _⟩
            have h := HBUF.out.push HKL.out (by omega) (u % 4294967296) ((u : Int) % 4294967296) (by omega) (by omega)
            rw [shrL_take s ys k (by rw [← hly.out]; exact hk1)]
            have e : (ys.getD k 0 + 4294967296 * ys.getD (k + 1) 0) / 2 ^ s = u := by rw [HU.out, HT.out, Nat.add_comm, Nat.mul_comm]; rfl
            rw [e, show la - q - (k + 1) = la - q - k - 1 from by omega]
            exact h
          case measure => simp [intOf]; omega
        · have hki2 : ¬ (k : Int) + 1 < ((la - q : Nat) : Int) := by omega
          have hy0 : ys.getD (k + 1) 0 = 0 := getD_out (by rw [← hly.out]; omega)
          have HY0 := Lib.hid hy0
          obtain ⟨u, hu⟩ : ∃ u, u = ys[k]?.getD 0 / 2 ^ s := ⟨_, rfl⟩
          have hui : ((ys[k]?.getD 0 : Nat) : Int) / 2 ^ s = (u : Int) := by rw [hu, Int.natCast_ediv, Int.natCast_pow]; rfl
          have HU := Lib.hid hu
          clear hcx hu hy0
          go_wp2
          go_roundw
          case rel =>
            refine ⟨k + 1, by omega, rfl, ?_, hb'.setCell (Nat.le_refl _) _⟩
            have h := HBUF.out.push HKL.out (by omega) (u % 4294967296) ((u : Int) % 4294967296) (by omega) (by omega)
            rw [shrL_take s ys k (by rw [← hly.out]; exact hk1)]
            have e : (ys.getD k 0 + 4294967296 * ys.getD (k + 1) 0) / 2 ^ s = u := by rw [HU.out, HY0.out]; rfl
            rw [e, show la - q - (k + 1) = la - q - k - 1 from by omega]
            exact h
          case measure => simp [intOf]; omega
      · obtain rfl : k = la - q := by omega
        rw [Nat.sub_self, List.replicate_zero, List.append_nil, List.take_of_length_le (by rw [shrL_length, ← hly.out]; exact Nat.le_refl _)] at hbuf'
        have hw := hbuf'.words (cap := la - q) (by rw [shrL_length, ← hly.out]; omega) (by rw [shrL_length, ← hly.out]; exact Nat.le_refl _)
        rw [shrL_length, ← hly.out] at hw
        have HW := Lib.hid hw
        clear hbuf' hw hkl
        go_wp2_with (go_at_call 302; refine (cut_any HW.out).mono ?_; rintro e w2 ⟨rfl, rfl⟩)
        go_ret
        refine ⟨_, rfl, ?_, hb'⟩
        rw [← HE2.out, ← val_shrL s ys hwy.out hs32, ← dig_of _ _ (Wf_shrL s ys) rfl]
        exact HW.out.trim_
end
end
/- A region whose order is open, whose operations may make memory: each operation is shown once, whatever has been done before it. -/
section
open Go

/-- The slots of these operations, filled by u. -/
def fillR (u : Nat → Value) : List Oper → Nat → Act → Act
  | [], _, a => a
  | o :: r, k, a => fillR u r (k + 1) (a.put o.dst (u k))

/-- What an operation may lean on: what is said of those that it waits for. -/
def depsR (V : Nat → World → Value → Prop) (u : Nat → Value) (w : World) : List Edge → Prop
  | [] => True
  | e :: r => bif Region.binds .any e then V e.on w (u e.on) ∧ depsR V u w r else depsR V u w r

def stepR (P : Program) (ops : Array Oper) (C : World → Prop) (E : World → World → Prop) (V : Nat → World → Value → Prop) (Q : Exit → Act → World → Prop) (fill : (Nat → Value) → Act) (k : Nat) (o : Oper) : Prop :=
  ∀ u w, C w → depsR V u w o.after.toList →
    match o.guard with
    | none => ∀ K : Act → World → Prop, (∀ v w', C w' → E w w' → V k w' v → K ((fill u).put o.dst v) w') → o.wp P (fill u) w K Q
    | some _ => (Region.wanted o (yielded ops (fill u).tmps) = true → ∀ K : Act → World → Prop, (∀ v w', C w' → E w w' → V k w' v → K ((fill u).put o.dst v) w') → o.wp P (fill u) w K Q) ∧
        (Region.wanted o (yielded ops (fill u).tmps) = false → V k w undef)

def stepsR (P : Program) (ops : Array Oper) (C : World → Prop) (E : World → World → Prop) (V : Nat → World → Value → Prop) (Q : Exit → Act → World → Prop) (fill : (Nat → Value) → Act) : List Oper → Nat → Prop
  | [], _ => True
  | o :: r, k => stepR P ops C E V Q fill k o ∧ stepsR P ops C E V Q fill r (k + 1)

def allR (V : Nat → World → Value → Prop) (u : Nat → Value) (w : World) : List Oper → Nat → Prop
  | [], _ => True
  | _ :: r, k => V k w (u k) ∧ allR V u w r (k + 1)

def dstsB (l : List Oper) : Bool := (List.range l.length).all fun i => (List.range l.length).all fun j =>
  i == j || (match (l[i]?).bind (·.dst), (l[j]?).bind (·.dst) with | some d, some e => d != e | _, _ => true)
def backB (l : List Oper) : Bool := (List.range l.length).all fun i => match l[i]? with | some o => o.after.all fun e => !Region.binds .any e || decide (e.on < i) | none => false
def arrR (N m : Nat) : Array Bool := ((List.replicate N true) ++ (List.replicate m false)).toArray
theorem arrR_get (N m i : Nat) : (arrR N m)[i]? = if i < N then some true else if i < N + m then some false else none := by
  simp only [arrR, List.getElem?_toArray, List.getElem?_append, List.length_replicate, List.getElem?_replicate]
  split
  · rfl
  · split
    · rw [if_pos (by omega)]
    · rw [if_neg (by omega)]
def okR (l : List Oper) (N : Nat) : Bool :=
  dstsB (l.take N) && backB (l.take N) && decide (N ≤ l.length) && (decide (N = l.length) || (decide (N < l.length) && Region.sinkB .any l.toArray N && Region.chainB .any l.toArray N)) &&
    Region.seqB .any l.toArray (l.length - N) N (arrR N (l.length - N))

theorem depsR_spec {V : Nat → World → Value → Prop} {u : Nat → Value} {w : World} : ∀ {l : List Edge}, (∀ e ∈ l, Region.binds .any e = true → V e.on w (u e.on)) → depsR V u w l
  | [], _ => trivial
  | e :: r, h => by
    unfold depsR
    cases hb : Region.binds .any e with
    | true => exact ⟨h e (List.mem_cons_self ..) hb, depsR_spec fun e' he' => h e' (List.mem_cons_of_mem _ he')⟩
    | false => exact depsR_spec fun e' he' => h e' (List.mem_cons_of_mem _ he')
theorem stepsR_spec {P : Program} {ops : Array Oper} {C : World → Prop} {E : World → World → Prop} {V : Nat → World → Value → Prop} {Q : Exit → Act → World → Prop} {fill : (Nat → Value) → Act} :
    ∀ {l : List Oper} {k : Nat}, stepsR P ops C E V Q fill l k → ∀ i o, l[i]? = some o → stepR P ops C E V Q fill (k + i) o
  | [], _, _, i, o, hi => by simp at hi
  | o :: r, k, h, i, o', hi => by
    cases i with
    | zero => simp at hi; subst hi; exact h.1
    | succ i =>
      have := stepsR_spec h.2 i o' (by simpa using hi)
      rw [show k + (i + 1) = k + 1 + i by omega]
      exact this
theorem allR_spec {V : Nat → World → Value → Prop} {u : Nat → Value} {w : World} : ∀ {l : List Oper} {k : Nat}, (∀ i, i < l.length → V (k + i) w (u (k + i))) → allR V u w l k
  | [], _, _ => trivial
  | _ :: r, k, h => ⟨by simpa using h 0 (by simp), allR_spec fun i hi => by have := h (i + 1) (by simp; omega); rwa [show k + (i + 1) = k + 1 + i by omega] at this⟩

theorem put_put (a : Act) (d : Option Tmp) (v v' : Value) : (a.put d v).put d v' = a.put d v' := by
  cases d with
  | none => rfl
  | some d => simp [Act.put]
theorem put_same (a : Act) (d : Tmp) : a.put (some d) (a.tmps.getD d undef) = a := by
  obtain ⟨t, ds⟩ := a
  simp only [Act.put]
  congr 1
  apply Array.ext (by simp)
  intro i h1 h2
  rw [Array.getElem_setIfInBounds]
  split
  · rename_i h; subst h; simp [h2]
  · rfl

def distinct (l : List Oper) : Prop := ∀ (i j : Nat) (o o' : Oper) (d : Tmp), l[i]? = some o → l[j]? = some o' → i ≠ j → o.dst = some d → o'.dst ≠ some d
theorem distinct_of (l : List Oper) (h : dstsB l = true) : distinct l := by
  intro i j o o' d hi hj hne hd hd'
  have hil : i < l.length := (List.getElem?_eq_some_iff.1 hi).1
  have hjl : j < l.length := (List.getElem?_eq_some_iff.1 hj).1
  have h1 := List.all_eq_true.1 (List.all_eq_true.1 h i (List.mem_range.2 hil)) j (List.mem_range.2 hjl)
  simp [hi, hj, hd, hd', hne] at h1
theorem distinct_tail {o : Oper} {l : List Oper} (h : distinct (o :: l)) : distinct l := fun i j a b d hi hj hne => h (i + 1) (j + 1) a b d (by simpa using hi) (by simpa using hj) (by omega)

theorem fillR_put (u : Nat → Value) (d : Option Tmp) (v : Value) : ∀ (l : List Oper) (k : Nat) (a : Act), (∀ (i : Nat) (o : Oper), l[i]? = some o → ∀ e, o.dst = some e → d ≠ some e) → (fillR u l k a).put d v = fillR u l k (a.put d v)
  | [], _, _, _ => rfl
  | o :: r, k, a, h => by
    simp only [fillR]
    rw [fillR_put u d v r (k + 1) _ (fun i o' hi => h (i + 1) o' (by simpa using hi)), Act.put_comm a (u k) v (fun e he => h 0 o rfl e he)]
theorem fillR_at (u : Nat → Value) (v : Value) : ∀ (l : List Oper) (k i : Nat) (a : Act) (o : Oper), distinct l → l[i]? = some o →
    (fillR u l k a).put o.dst v = fillR (fun j => if j = k + i then v else u j) l k a
  | [], _, i, _, _, _, hi => by simp at hi
  | x :: r, k, i, a, o, hd, hi => by
    cases i with
    | zero =>
      simp at hi
      subst hi
      simp only [fillR, Nat.add_zero, if_true]
      rw [fillR_put u x.dst v r (k + 1) _ (fun i o' hi' e he hx => hd 0 (i + 1) x o' e rfl (by simpa using hi') (by omega) hx he), put_put]
      have : ∀ (l : List Oper) (m : Nat) (a : Act), k < m → fillR u l m a = fillR (fun j => if j = k then v else u j) l m a := by
        intro l
        induction l with
        | nil => intros; rfl
        | cons y l ih => intro m a hm; simp only [fillR]; rw [if_neg (by omega)]; exact ih _ _ (by omega)
      exact this r (k + 1) _ (by omega)
    | succ i =>
      simp only [fillR]
      rw [if_neg (by omega), fillR_at u v r (k + 1) i _ o (distinct_tail hd) (by simpa using hi)]
      have : (fun j => if j = k + 1 + i then v else u j) = (fun j => if j = k + (i + 1) then v else u j) := by
        funext j
        rw [show k + 1 + i = k + (i + 1) by omega]
      rw [this]
theorem fillR_id : ∀ (l : List Oper) (k : Nat) (a : Act) (u : Nat → Value), distinct l → (∀ (i : Nat) (o : Oper) (d : Tmp), l[i]? = some o → o.dst = some d → u (k + i) = a.tmps.getD d undef) → fillR u l k a = a
  | [], _, _, _, _, _ => rfl
  | x :: r, k, a, u, hd, h => by
    have h0 : a.put x.dst (u k) = a := by
      cases hx : x.dst with
      | none => rfl
      | some d =>
        have := h 0 x d rfl hx
        simp only [Nat.add_zero] at this
        rw [this]
        exact put_same a d
    simp only [fillR]
    rw [h0]
    exact fillR_id r (k + 1) a u (distinct_tail hd) (fun i o d hi ho => by rw [show k + 1 + i = k + (i + 1) by omega]; exact h (i + 1) o d (by simpa using hi) ho)

/-- How many of the first ones are still to be done. -/
def leftR (N : Nat) (listed : Array Bool) : Nat := ((List.range N).filter fun i => !listed.getD i false).length
theorem leftR_zero {N : Nat} {listed : Array Bool} (h : leftR N listed = 0) : ∀ i, i < N → listed.getD i false = true := by
  intro i hi
  have h1 := List.eq_nil_of_length_eq_zero h
  cases hl : listed.getD i false with
  | true => rfl
  | false =>
    have : i ∈ (List.range N).filter fun i => !listed.getD i false := List.mem_filter.2 ⟨List.mem_range.2 hi, by simp [hl]⟩
    rw [h1] at this
    cases this
theorem filter_lt {α : Type} (p q : α → Bool) (l : List α) (x : α) (hx : x ∈ l) (hpx : p x = true) (hqx : q x = false) (hpq : ∀ y, q y = true → p y = true) : (l.filter q).length < (l.filter p).length := by
  induction l with
  | nil => cases hx
  | cons y l ih =>
    have hle : (l.filter q).length ≤ (l.filter p).length := by
      clear ih hx
      induction l with
      | nil => simp
      | cons z l ih2 =>
        rw [List.filter_cons, List.filter_cons]
        by_cases hq : q z = true
        · simp [hq, hpq z hq]; exact ih2
        · by_cases hp : p z = true
          · simp [hq, hp]; omega
          · simp [hq, hp]; exact ih2
    rw [List.filter_cons, List.filter_cons]
    rcases List.mem_cons.1 hx with rfl | hx
    · simp [hpx, hqx]; omega
    · have := ih hx
      by_cases hq : q y = true
      · simp [hq, hpq y hq]; exact this
      · by_cases hp : p y = true
        · simp [hq, hp]; omega
        · simp [hq, hp]; exact this
theorem leftR_set {N i : Nat} {listed : Array Bool} (hi : i < N) (h : listed.getD i true = false) : leftR N (listed.setIfInBounds i true) < leftR N listed := by
  have hs : i < listed.size := by
    rcases Nat.lt_or_ge i listed.size with h1 | h1
    · exact h1
    · simp [Array.getElem?_eq_none h1] at h
  refine filter_lt _ _ _ i (List.mem_range.2 hi) (by simp [getD_both h]) ?_ ?_
  · simp [hs]
  · intro j hj
    simp only [Bool.not_eq_true'] at hj ⊢
    cases hl : listed.getD j false with
    | false => rfl
    | true => rw [getD_set_true hl] at hj; cases hj

theorem wp_region_each {P : Program} {id : Nat} {l : List Oper} {Q : Exit → Act → World → Prop} {a0 : Act} {w0 : World} (N : Nat) (C : World → Prop) (E : World → World → Prop) (V : Nat → World → Value → Prop)
    (hm : P.follows .mixedOrders = true) (hB : okR l N = true) (h0 : C w0.drew) (hR : ∀ w, C w → E w w) (hE : ∀ i w w' v, C w → C w' → E w w' → V i w v → V i w' v)
    (hstep : stepsR P l.toArray C E V Q (fun u => fillR u (l.take N) 0 a0) (l.take N) 0)
    (hend : ∀ u w, C w → allR V u w (l.take N) 0 → wpList P l.toArray Q (l.drop N) (fillR u (l.take N) 0 a0) w) : (Code.region id l.toArray true).wp P Q a0 w0 := by
  simp only [okR, Bool.and_eq_true, Bool.or_eq_true, decide_eq_true_eq] at hB
  obtain ⟨⟨⟨⟨hdst, hback⟩, hN⟩, htail⟩, hseq⟩ := hB
  have hdis := distinct_of _ hdst
  have htl : (l.take N).length = N := by rw [List.length_take]; omega
  have hsz : l.toArray.size = l.length := by simp
  have hget : ∀ i, i < N → (l.take N)[i]? = l.toArray[i]? := by
    intro i hi
    rw [List.getElem?_take_of_lt hi]; simp
  have key : ∀ (f : Nat) (listed : Array Bool) (u : Nat → Value) (w : World), HeadInv .any l.toArray N listed → leftR N listed = f → C w → (∀ i, i < N → listed.getD i false = true → V i w (u i)) →
      wpAny P .any l.toArray Q (f + (l.length - N)) listed (fillR u (l.take N) 0 a0) w := by
    intro f
    induction f using Nat.strongRecOn with
    | ind f ih =>
      intro listed u w inv hf hC hV
      by_cases hf0 : f = 0
      · subst hf0
        have hall := leftR_zero hf
        have hlisted : listed = arrR N (l.length - N) := by
          apply Array.ext_getElem?
          intro i
          have hls := inv.size
          by_cases hi : i < N
          · have h1 := hall i hi
            have his : i < listed.size := by omega
            simp [his] at h1
            rw [Array.getElem?_eq_getElem his, h1, arrR_get, if_pos hi]
          · by_cases hi2 : i < l.length
            · have h1 := inv.tail i (by omega) (by omega)
              have his : i < listed.size := by omega
              simp [his] at h1
              rw [Array.getElem?_eq_getElem his, h1, arrR_get, if_neg hi, if_pos (by omega)]
            · rw [Array.getElem?_eq_none (by omega), arrR_get, if_neg hi, if_neg (by omega)]
        have hdl : (l.drop N).length = l.length - N := List.length_drop
        have := wpAny_of_seq (md := .any) (Q' := Q) (P := P) (l.drop N) N listed (fillR u (l.take N) 0 a0) w (fun j => by simp [List.getElem?_drop]) (by rw [hdl, hlisted]; exact hseq)
          (hend u w hC (allR_spec fun i hi => by rw [Nat.zero_add]; rw [htl] at hi; exact hV i hi (hall i hi)))
        rw [Nat.zero_add, ← hdl]
        exact this
      · obtain ⟨f', rfl⟩ : ∃ f', f = f' + 1 := ⟨f - 1, by omega⟩
        have hex : ∃ i, i < N ∧ listed.getD i false = false := by
          rcases Classical.em (∃ i, i < N ∧ listed.getD i false = false) with h | h
          · exact h
          · exfalso
            apply hf0
            rw [← hf, leftR, List.length_eq_zero_iff, List.filter_eq_nil_iff]
            intro i hi
            have hi := List.mem_range.1 hi
            cases hl : listed.getD i false with
            | true => simp
            | false => exact absurd ⟨i, hi, hl⟩ h
        rw [show f' + 1 + (l.length - N) = (f' + (l.length - N)) + 1 by omega]
        refine ⟨fun hnil => ?_, fun i hi => ?_⟩
        · exfalso
          suffices hno : ∀ i, i < N → listed.getD i false = false → False by
            obtain ⟨i, hiN, hil⟩ := hex
            exact hno i hiN hil
          intro i
          induction i using Nat.strongRecOn with
          | ind i ihi =>
            intro hiN hil
            have hob : (l.take N)[i]? = some ((l.take N)[i]'(by omega)) := List.getElem?_eq_getElem (by omega)
            have hb := List.all_eq_true.1 hback i (List.mem_range.2 (by omega))
            rw [hob] at hb
            have hb' := Array.all_eq_true'.1 hb
            rcases Classical.em (∃ e ∈ ((l.take N)[i]'(by omega)).after, Region.binds .any e = true ∧ listed.getD e.on false = false) with h | h
            · obtain ⟨e, he, hbe, hle⟩ := h
              have hlt : e.on < i := by have := hb' e he; rw [hbe] at this; simpa using this
              exact ihi e.on hlt (by omega) hle
            · have : i ∈ Region.ready .any l.toArray listed := mem_ready.2 ⟨getD_in (by rw [inv.size]; omega) hil, _, by rw [← hget i hiN]; exact hob, fun e he hbe => by
                cases hl : listed.getD e.on false with
                | true => rfl
                | false => exact absurd ⟨e, he, hbe, hl⟩ h⟩
              rw [hnil] at this
              cases this
        · have hiN : i < N := by
            rcases htail with h | h
            · obtain ⟨_, o, ho, _⟩ := mem_ready.1 hi
              have := (Array.getElem?_eq_some_iff.1 ho).1
              omega
            · rcases Nat.lt_or_ge i N with h1 | h1
              · exact h1
              · obtain ⟨i0, hi0, hl0⟩ := hex
                exact absurd hi (tail_waits h.1.2 h.2 (by rw [hsz]; exact h.1.1) inv _ i0 rfl hi0 (getD_in (by rw [inv.size]; omega) hl0) i h1)
          obtain ⟨hun, o, ho, hdep⟩ := mem_ready.1 hi
          have hol : (l.take N)[i]? = some o := by rw [hget i hiN]; exact ho
          have hlt : ∀ e ∈ o.after, Region.binds .any e = true → e.on < i := by
            intro e he hbe
            have hb := List.all_eq_true.1 hback i (List.mem_range.2 (by omega))
            rw [hol] at hb
            have := Array.all_eq_true'.1 hb e he
            rw [hbe] at this
            simpa using this
          have hS := stepsR_spec hstep i o hol u w hC (depsR_spec fun e he hbe => hV e.on (by have := hlt e (by simpa using he) hbe; omega) (hdep e (by simpa using he) hbe))
          rw [Nat.zero_add] at hS
          have next : ∀ v w', C w' → E w w' → V i w' v → wpAny P .any l.toArray Q (f' + (l.length - N)) (listed.setIfInBounds i true) ((fillR u (l.take N) 0 a0).put o.dst v) w' := by
            intro v w' hC' hE' hVi
            rw [fillR_at u v (l.take N) 0 i a0 o hdis hol, Nat.zero_add]
            have hinv := inv.set hi hiN
            have hleft := leftR_set hiN hun
            have hV' : ∀ j, j < N → (listed.setIfInBounds i true).getD j false = true → V j w' ((fun j => if j = i then v else u j) j) := by
              intro j hj hjl
              by_cases hji : j = i
              · subst hji; simpa using hVi
              · simp only [if_neg hji]
                rw [getD_set_ne false (Ne.symm hji)] at hjl
                exact hE j w w' _ hC hC' hE' (hV j hj hjl)
            have hle : leftR N (listed.setIfInBounds i true) ≤ f' := by omega
            have hge : f' ≤ leftR N (listed.setIfInBounds i true) := by
              have : leftR N listed ≤ leftR N (listed.setIfInBounds i true) + 1 := by
                unfold leftR
                have hcount : ∀ m, ((List.range m).filter fun j => !listed.getD j false).length ≤ ((List.range m).filter fun j => !(listed.setIfInBounds i true).getD j false).length + (if i < m then 1 else 0) := by
                  intro m
                  induction m with
                  | zero => simp
                  | succ m ihm =>
                    rw [List.range_succ, List.filter_append, List.filter_append, List.length_append, List.length_append]
                    by_cases hmi : m = i
                    · subst hmi
                      have h1 : (List.filter (fun j => !listed.getD j false) [m]).length ≤ 1 := by
                        exact Nat.le_trans (List.length_filter_le _ _) (by simp)
                      rw [if_neg (by omega)] at ihm
                      rw [if_pos (by omega)]
                      omega
                    · have h1 : (List.filter (fun j => !(listed.setIfInBounds i true).getD j false) [m]) = (List.filter (fun j => !listed.getD j false) [m]) := by
                        simp only [List.filter_cons, List.filter_nil]
                        rw [getD_set_ne false (Ne.symm hmi)]
                      rw [h1]
                      split at ihm <;> split <;> omega
                have := hcount N
                split at this <;> omega
              omega
            have hex' : leftR N (listed.setIfInBounds i true) = f' := Nat.le_antisymm hle hge
            exact ih f' (by omega) (listed.setIfInBounds i true) _ w' hinv hex' hC' hV'
          unfold wpOp
          simp only [ho]
          unfold stepR at *
          cases hg : o.guard with
          | none =>
            rw [hg] at hS
            rw [if_pos (by simp [Region.wanted, hg])]
            exact .inl (hS _ next)
          | some p =>
            rw [hg] at hS
            by_cases hw : Region.wanted o (yielded l.toArray (fillR u (l.take N) 0 a0).tmps) = true
            · rw [if_pos hw]
              exact .inl (hS.1 hw _ next)
            · rw [if_neg hw]
              exact next undef w hC (hR w hC) (hS.2 (by simpa using hw))
  refine wp_region_any hm ?_
  have inv0 : HeadInv .any l.toArray N (Array.replicate l.toArray.size false) :=
    ⟨by simp, fun j oj _ hl => (by rw [getD_replicate_false] at hl; cases hl), fun t _ ht => getD_in (by simpa using ht) (getD_replicate_false _ _)⟩
  have hleft0 : leftR N (Array.replicate l.toArray.size false) = N := by
    unfold leftR
    rw [List.filter_eq_self.2 (fun i _ => by rw [getD_replicate_false]; rfl), List.length_range]
  obtain ⟨u0, hid⟩ : ∃ u0, fillR u0 (l.take N) 0 a0 = a0 :=
    ⟨fun i => match ((l.take N)[i]?).bind (·.dst) with | some d => a0.tmps.getD d undef | none => undef, fillR_id _ 0 a0 _ hdis (fun i o d hi ho => by simp [hi, ho])⟩
  have hk := key N (Array.replicate l.toArray.size false) u0 { w0 with drawn := w0.drawn + 1 } inv0 hleft0 h0 (fun i _ hl => by rw [getD_replicate_false] at hl; cases hl)
  rw [hid, show N + (l.length - N) = l.toArray.size by rw [hsz]; omega] at hk
  exact hk

/-- The slot of an operation of the list. -/
def slotR (l : List Oper) (a : Act) (j : Nat) : Value := match (l[j]?).bind (·.dst) with
  | some d => a.tmps.getD d undef
  | none => undef
def depsA (V : Nat → World → Value → Prop) (l : List Oper) (a : Act) (w : World) : List Edge → Prop
  | [] => True
  | e :: r => bif Region.binds .any e then V e.on w (slotR l a e.on) ∧ depsA V l a w r else depsA V l a w r
def hasR (l : List Oper) (s : Tmp) : Bool := l.any fun o => o.dst == some s
def stepA (P : Program) (ops : Array Oper) (C : World → Prop) (E : World → World → Prop) (V : Nat → World → Value → Prop) (Q : Exit → Act → World → Prop) (l : List Oper) (a0 : Act) (k : Nat) (o : Oper) : Prop :=
  ∀ (a : Act) (w : World), (∀ s, hasR l s = false → a.tmps.getD s undef = a0.tmps.getD s undef) → C w → depsA V l a w o.after.toList →
    match o.guard with
    | none => ∀ K : Act → World → Prop, (∀ v w', C w' → E w w' → V k w' v → K (a.put o.dst v) w') → o.wp P a w K Q
    | some _ => (Region.wanted o (yielded ops a.tmps) = true → ∀ K : Act → World → Prop, (∀ v w', C w' → E w w' → V k w' v → K (a.put o.dst v) w') → o.wp P a w K Q) ∧
        (Region.wanted o (yielded ops a.tmps) = false → V k w undef)
def stepsA (P : Program) (ops : Array Oper) (C : World → Prop) (E : World → World → Prop) (V : Nat → World → Value → Prop) (Q : Exit → Act → World → Prop) (h : List Oper) (a0 : Act) : List Oper → Nat → Prop
  | [], _ => True
  | o :: r, k => stepA P ops C E V Q h a0 k o ∧ stepsA P ops C E V Q h a0 r (k + 1)
def inB (l : List Oper) (n : Nat) : Bool := l.all fun o => match o.dst with | some d => decide (d < n) | none => true

theorem fillR_size (u : Nat → Value) : ∀ (l : List Oper) (k : Nat) (a : Act), (fillR u l k a).tmps.size = a.tmps.size
  | [], _, _ => rfl
  | o :: r, k, a => by
    simp only [fillR]
    rw [fillR_size u r]
    cases o.dst <;> simp [Act.put]
theorem put_get_ne (a : Act) (d : Option Tmp) (v : Value) (s : Tmp) (h : d ≠ some s) : (a.put d v).tmps.getD s undef = a.tmps.getD s undef := by
  cases d with
  | none => rfl
  | some d =>
    have : d ≠ s := fun e => h (by rw [e])
    simp [Act.put, Array.getElem?_setIfInBounds, this]
theorem fillR_out (u : Nat → Value) (s : Tmp) : ∀ (l : List Oper) (k : Nat) (a : Act), hasR l s = false → (fillR u l k a).tmps.getD s undef = a.tmps.getD s undef
  | [], _, _, _ => rfl
  | o :: r, k, a, h => by
    simp only [hasR, List.any_cons, Bool.or_eq_false_iff, beq_eq_false_iff_ne] at h
    simp only [fillR]
    rw [fillR_out u s r (k + 1) _ h.2, put_get_ne _ _ _ _ h.1]
theorem fillR_in (u : Nat → Value) : ∀ (l : List Oper) (k i : Nat) (a : Act) (o : Oper) (d : Tmp), distinct l → l[i]? = some o → o.dst = some d → d < a.tmps.size → (fillR u l k a).tmps.getD d undef = u (k + i)
  | [], _, i, _, _, _, _, hi, _, _ => by simp at hi
  | x :: r, k, i, a, o, d, hd, hi, ho, hs => by
    cases i with
    | zero =>
      simp at hi
      subst hi
      simp only [fillR]
      have hn : hasR r d = false := by
        simp only [hasR, List.any_eq_false, beq_iff_eq]
        intro y hy he
        obtain ⟨j, hj⟩ := List.mem_iff_getElem?.1 hy
        exact hd 0 (j + 1) x y d rfl (by simpa using hj) (by omega) ho he
      rw [fillR_out u d r (k + 1) _ hn, ho]
      simp [Act.put, hs]
    | succ i =>
      simp only [fillR]
      rw [fillR_in u r (k + 1) i _ o d (distinct_tail hd) (by simpa using hi) ho (by cases x.dst <;> simpa [Act.put] using hs), show k + 1 + i = k + (i + 1) by omega]

theorem depsA_of {V : Nat → World → Value → Prop} {h : List Oper} {u : Nat → Value} {a0 : Act} {w : World} (hd : distinct h) (hin : inB h a0.tmps.size = true) :
    ∀ {l : List Edge}, (∀ e ∈ l, Region.binds .any e = true → ∃ o d, h[e.on]? = some o ∧ o.dst = some d) → depsR V u w l → depsA V h (fillR u h 0 a0) w l
  | [], _, _ => trivial
  | e :: r, hl, hr => by
    unfold depsR at hr
    unfold depsA
    have hrest := fun h' => depsA_of (V := V) (u := u) (w := w) hd hin (l := r) (fun e' he' => hl e' (List.mem_cons_of_mem _ he')) h'
    cases hb : Region.binds .any e with
    | false => rw [hb] at hr; exact hrest hr
    | true =>
      rw [hb] at hr
      refine ⟨?_, hrest hr.2⟩
      obtain ⟨o, d, ho, hod⟩ := hl e (List.mem_cons_self ..) hb
      have hsz : d < a0.tmps.size := by
        have := List.all_eq_true.1 hin o (List.mem_of_getElem? ho)
        rw [hod] at this
        simpa using this
      have := fillR_in u h 0 e.on a0 o d hd ho hod hsz
      rw [Nat.zero_add] at this
      simp only [slotR, ho, Option.bind_some, hod]
      rw [this]
      exact hr.1
/-- Each operation that another one waits for has a slot. -/
def slotB (l : List Oper) : Bool := l.all fun o => o.after.all fun e => !Region.binds .any e || ((l[e.on]?).bind (·.dst)).isSome
theorem slotB_spec {l : List Oper} (h : slotB l = true) {i : Nat} {o : Oper} (hi : l[i]? = some o) : ∀ e ∈ o.after.toList, Region.binds .any e = true → ∃ o' d, l[e.on]? = some o' ∧ o'.dst = some d := by
  intro e he hb
  have h1 := List.all_eq_true.1 h o (List.mem_of_getElem? hi)
  have h2 := Array.all_eq_true'.1 h1 e (by simpa using he)
  rw [hb] at h2
  cases ho : l[e.on]? with
  | none => rw [ho] at h2; cases h2
  | some o' =>
    rw [ho] at h2
    cases hd : o'.dst with
    | none => simp [hd] at h2
    | some d => exact ⟨o', d, rfl, hd⟩

theorem stepsR_of {P : Program} {ops : Array Oper} {C : World → Prop} {E : World → World → Prop} {V : Nat → World → Value → Prop} {Q : Exit → Act → World → Prop} {h : List Oper} {a0 : Act} (hd : distinct h) (hin : inB h a0.tmps.size = true)
    (hsl : slotB h = true) : ∀ (l : List Oper) (k : Nat), (∀ i, l[i]? = h[k + i]?) → stepsA P ops C E V Q h a0 l k → stepsR P ops C E V Q (fun u => fillR u h 0 a0) l k
  | [], _, _, _ => trivial
  | o :: r, k, hl, hs => by
    have hi : h[k]? = some o := by simpa using (hl 0).symm
    refine ⟨fun u w hC hdep => ?_, stepsR_of hd hin hsl r (k + 1) (fun i => by have := hl (i + 1); rw [show k + 1 + i = k + (i + 1) by omega, ← this]; simp) hs.2⟩
    exact hs.1 (fillR u h 0 a0) w (fun s h1 => fillR_out u s h 0 a0 h1) hC (depsA_of hd hin (slotB_spec hsl hi) hdep)

theorem wp_region_acts {P : Program} {id : Nat} {l : List Oper} {Q : Exit → Act → World → Prop} {a0 : Act} {w0 : World} (N : Nat) (C : World → Prop) (E : World → World → Prop) (V : Nat → World → Value → Prop)
    (hm : P.follows .mixedOrders = true) (hB : (okR l N && slotB (l.take N)) = true) (hin : inB (l.take N) a0.tmps.size = true) (h0 : C w0.drew) (hR : ∀ w, C w → E w w) (hE : ∀ i w w' v, C w → C w' → E w w' → V i w v → V i w' v)
    (hstep : stepsA P l.toArray C E V Q (l.take N) a0 (l.take N) 0)
    (hend : ∀ u w, C w → allR V u w (l.take N) 0 → wpList P l.toArray Q (l.drop N) (fillR u (l.take N) 0 a0) w) : (Code.region id l.toArray true).wp P Q a0 w0 := by
  rw [Bool.and_eq_true] at hB
  refine wp_region_each N C E V hm hB.1 h0 hR hE (stepsR_of ?_ hin hB.2 _ 0 (fun i => by rw [Nat.zero_add]) hstep) hend
  have h1 := hB.1
  simp only [okR, Bool.and_eq_true] at h1
  exact distinct_of _ h1.1.1.1.1
end
end Go.Proofs.YtiolbdleihiocaaGreat
