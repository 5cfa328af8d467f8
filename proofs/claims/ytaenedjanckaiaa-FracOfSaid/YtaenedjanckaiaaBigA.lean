/- Package big: magnitudes: cut, under. -/
import Derived.BigQuiet
import Derived.Deep.QuietTactic
import Derived.WalkSpells
import Derived.WalkLawsBesides
import Derived.Test.YtaenedjanckaiaaProg
import Derived.Test.YtaenedjanckaiaaMem
namespace Go.Proofs.Ytaenedjanckaiaa
set_option linter.unnecessarySimpa false
set_option linter.unusedVariables false
set_option linter.unusedSimpArgs false
open Go.RowKit

theorem trim_take_pred (xs : List Nat) (k : Nat) (hk : 0 < k) (hl : k ≤ xs.length) (h0 : xs.getD (k - 1) 0 = 0) : trim (xs.take (k - 1)) = trim (xs.take k) := by
  obtain ⟨j, rfl⟩ : ∃ j, k = j + 1 := ⟨k - 1, by omega⟩
  simp only [Nat.add_sub_cancel] at *
  rw [List.take_succ_eq_append_getElem (by omega), ← getD_in (by omega), h0, trim_snoc_zero]
theorem trim_take_done (xs : List Nat) (k : Nat) (hk : 0 < k) (hl : k ≤ xs.length) (h0 : xs.getD (k - 1) 0 ≠ 0) : (trim (xs.take k)).length = k := by
  obtain ⟨j, rfl⟩ : ∃ j, k = j + 1 := ⟨k - 1, by omega⟩
  simp only [Nat.add_sub_cancel] at *
  rw [List.take_succ_eq_append_getElem (by omega), ← getD_in (by omega), trim_snoc_pos _ _ h0]
  simp; omega

theorem cut_cells (xs : List Nat) (b o n cap : Nat) (w : World) (hn : xs.length = n) (hb : n ≤ 17179869184) (hcap : n ≤ cap)
    (hc : ∀ i, i < n → w.cell? ⟨b, o + i, none⟩ = some (.int .u32 (xs.getD i 0 : Nat))) :
    Calls Try.prog 120 #[.slice (some ⟨b, o, none⟩) n cap] w fun e w' => e = .returned (.slice (some ⟨b, o, none⟩) (trim xs).length cap) ∧ w = w' := by
  have HN := Lib.hid hn
  clear hn
  go_enter Try.func120, Try.ntmps120
  go_wp2
  go_loop [0] (fun s => ∃ k : Nat, k ≤ n ∧ s = .slice (some ⟨b, o, none⟩) k cap ∧ trim (xs.take k) = trim xs) (fun s => match s with | .slice _ k _ => k | _ => 0)
  case atStart => exact ⟨n, Nat.le_refl _, rfl, by rw [List.take_of_length_le (by rw [HN.out]; exact Nat.le_refl _)]⟩
  case round =>
    obtain ⟨k, hk, rfl, hr⟩ := hrel
    have HR := Lib.hid hr
    clear hr
    by_cases hk0 : 0 < k
    · have hk1 : (0 : Int) ≤ (k : Int) - 1 := by omega
      have hcell := hc (k - 1) (by omega)
      go_wp2
      · have h0 : (((xs[k - 1]?.getD 0 : Nat) : Int) == 0) = true := by assumption
        have h0' : xs.getD (k - 1) 0 = 0 := by simp at h0; simpa using h0
        exact ⟨⟨k - 1, by omega, rfl, by rw [trim_take_pred xs k hk0 (by rw [HN.out]; exact hk) h0', HR.out]⟩, by simp; omega⟩
      · have h0 : (((xs[k - 1]?.getD 0 : Nat) : Int) == 0) = false := by assumption
        have h0' : xs.getD (k - 1) 0 ≠ 0 := by simp at h0; simpa using h0
        go_ret
        refine ⟨?_, rfl⟩
        have := trim_take_done xs k hk0 (by rw [HN.out]; exact hk) h0'
        rw [HR.out] at this
        rw [this]
        rfl
    · obtain rfl : k = 0 := by omega
      go_wp2
      go_ret
      refine ⟨?_, rfl⟩
      have := HR.out
      have hz : (trim xs).length = 0 := by rw [← this]; rfl
      rw [hz]
      rfl

theorem cut_any {w : World} {A : Option Addr} {n cap : Nat} {xs : List Nat} (h : Words w (.slice A n cap) xs) :
    Calls Try.prog 120 #[.slice A n cap] w fun e w' => e = .returned (.slice A (trim xs).length cap) ∧ w = w' := by
  obtain ⟨hl, hcap⟩ := h.len
  by_cases h0 : n = 0
  · subst h0
    obtain rfl : xs = [] := List.eq_nil_of_length_eq_zero hl.symm
    clear hl h
    go_enter Try.func120, Try.ntmps120
    go_wp2
    refine wp_loop_rounds 1 ?_
    rw [rounds_succ]
    go_wp2
    go_ret
    exact ⟨rfl, rfl⟩
  · obtain ⟨b, o, rfl, hc⟩ := h.open_ (by omega)
    exact cut_cells xs b o n cap w hl.symm (by rw [hl]; exact h.2.1) hcap hc

theorem ret_i {k : IntKind} {a b : Int} (h : a = b) : Ending.returned (.int k a) = .returned (.int k b) := by rw [h]

theorem under_cells (xs ys : List Nat) (b o b' o' n ca cb : Nat) (r : Int) (w : World) (hx : xs.length = n) (hy : ys.length = n) (hb : n ≤ 17179869184) (h0 : 0 < n) (hwx : Wf xs) (hwy : Wf ys) (hr : r = cmpN (val xs) (val ys))
    (hc : ∀ i, i < n → w.cell? ⟨b, o + i, none⟩ = some (.int .u32 (xs.getD i 0 : Nat))) (hd : ∀ i, i < n → w.cell? ⟨b', o' + i, none⟩ = some (.int .u32 (ys.getD i 0 : Nat))) :
    Calls Try.prog 106 #[.slice (some ⟨b, o, none⟩) n ca, .slice (some ⟨b', o', none⟩) n cb] w fun e w' => e = .returned (.int .i64 r) ∧ Dr w w' := by
  have HX := Lib.hid hx
  have HY := Lib.hid hy
  have HR := Lib.hid hr
  clear hx hy hr
  go_enter Try.func106, Try.ntmps106
  go_wp2
  go_loopw [5] (fun i wr => ∃ k : Nat, k ≤ n ∧ i = .int .i64 ((k : Int) - 1) ∧ (∀ j, k ≤ j → j < n → xs.getD j 0 = ys.getD j 0) ∧ Dr w wr) (fun i _ => (intOf i + 1).toNat)
  case atStart => exact ⟨n, Nat.le_refl _, rfl, fun j h1 h2 => by omega, Dr.refl _⟩
  case round =>
    obtain ⟨k, hk, rfl, hs, d, rfl⟩ := hrel
    have HS := Lib.hid hs
    clear hs
    by_cases hk0 : 0 < k
    · obtain ⟨k, rfl⟩ : ∃ j, k = j + 1 := ⟨k - 1, by omega⟩
      have e1 : ((k + 1 : Nat) : Int) - 1 = (k : Int) := by omega
      rw [e1]
      clear e1
      have hk1 : (0 : Int) ≤ (k : Int) := by omega
      have hk2 : (k : Int) < (n : Int) := by omega
      have hcell := hc k (by omega)
      have hcell' := hd k (by omega)
      go_wp2
      go_quiet (fail)
      go_wp2
      · have h1 : (xs[k]?.getD 0) < (ys[k]?.getD 0) := by assumption
        go_ret
        refine ⟨ret_i ?_, by repeat (first | exact ⟨_, rfl⟩ | refine Dr.n ?_ _)⟩
        have h2 := val_lt_of xs ys k hwx (by rw [HX.out, HY.out]) (by rw [HX.out]; omega) (by simpa using h1) (fun j h3 h4 => HS.out j (by omega) (by rw [HX.out] at h4; exact h4))
        rw [HR.out, cmpN, if_pos h2]
      · go_quiet (fail)
        go_wp2
        · have h1 : (ys[k]?.getD 0) < (xs[k]?.getD 0) := by assumption
          go_ret
          refine ⟨ret_i ?_, by repeat (first | exact ⟨_, rfl⟩ | refine Dr.n ?_ _)⟩
          have h2 := val_lt_of ys xs k hwy (by rw [HX.out, HY.out]) (by rw [HY.out]; omega) (by simpa using h1) (fun j h3 h4 => (HS.out j (by omega) (by rw [HY.out] at h4; exact h4)).symm)
          rw [HR.out, cmpN, if_neg (by omega), if_pos h2]
        · have h1 : (ys[k]?.getD 0) ≤ (xs[k]?.getD 0) := Nat.le_of_not_lt (by assumption)
          have h2 : (xs[k]?.getD 0) ≤ (ys[k]?.getD 0) := Nat.le_of_not_lt (by assumption)
          go_roundw
          case rel =>
            refine ⟨k, by omega, rfl, fun j h3 h4 => ?_, by repeat (first | exact ⟨_, rfl⟩ | refine Dr.n ?_ _)⟩
            rcases Nat.eq_or_lt_of_le h3 with rfl | h5
            · simpa using Nat.le_antisymm h2 h1
            · exact HS.out j (by omega) h4
          case measure => simp [intOf]
    · obtain rfl : k = 0 := by omega
      go_wp2
      go_ret
      refine ⟨ret_i ?_, _, rfl⟩
      have : xs = ys := val_eq_of_same xs ys (by rw [HX.out, HY.out]) (fun i hi => HS.out i (by omega) (by rw [HX.out] at hi; exact hi))
      rw [HR.out, this]
      simp [cmpN]

theorem under_any {w : World} {A B : Option Addr} {la ca lb cb n m : Nat} (hx : Words w (.slice A la ca) (dig n)) (hy : Words w (.slice B lb cb) (dig m)) :
    Calls Try.prog 106 #[.slice A la ca, .slice B lb cb] w fun e w' => e = .returned (.int .i64 (cmpN n m)) ∧ Dr w w' := by
  have hla := hx.len.1
  have hlb := hy.len.1
  have hsz := hx.2.1
  have hsz2 := hy.2.1
  rcases Nat.lt_trichotomy la lb with h | h | h
  · have hc : cmpN n m = -1 := by rw [cmpN, if_pos (dig_len_lt n m (by omega))]
    rw [hc]
    rw [← hla] at hsz
    rw [← hlb] at hsz2
    clear hx hy hc hla hlb
    go_enter Try.func106, Try.ntmps106
    go_wp2
    go_ret
    exact ⟨rfl, Dr.refl _⟩
  · subst h
    by_cases h0 : la = 0
    · subst h0
      have e1 := (dig_nil_iff n).1 (List.eq_nil_of_length_eq_zero hla.symm)
      have e2 := (dig_nil_iff m).1 (List.eq_nil_of_length_eq_zero hlb.symm)
      have hc : cmpN n m = 0 := by rw [e1, e2]; rfl
      rw [hc]
      clear hx hy hc hla hlb hsz hsz2 e1 e2
      go_enter Try.func106, Try.ntmps106
      go_wp2
      refine wp_loop_rounds 1 ?_
      rw [rounds_succ]
      go_wp2
      go_ret
      exact ⟨rfl, Dr.refl _⟩
    · obtain ⟨b, o, rfl, hc⟩ := hx.open_ (by omega)
      obtain ⟨b', o', rfl, hd⟩ := hy.open_ (by omega)
      exact under_cells (dig n) (dig m) b o b' o' la ca cb _ w hla.symm hlb.symm (by omega) (by omega) (Wf_dig n) (Wf_dig m) (by rw [val_dig, val_dig]) hc hd
  · have hc : cmpN n m = 1 := by have := dig_len_lt m n (by omega); rw [cmpN, if_neg (by omega), if_pos this]
    rw [hc]
    rw [← hla] at hsz
    rw [← hlb] at hsz2
    clear hx hy hc hla hlb
    go_enter Try.func106, Try.ntmps106
    go_wp2
    go_ret
    exact ⟨rfl, Dr.refl _⟩
end Go.Proofs.Ytaenedjanckaiaa
