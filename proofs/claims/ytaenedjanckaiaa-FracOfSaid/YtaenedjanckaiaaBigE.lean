/- Package big: magnitudes: step. -/
import Derived.Test.YtaenedjanckaiaaBigD
import Derived.Test.YtaenedjanckaiaaKnu
namespace Go.Proofs.Ytaenedjanckaiaa
set_option linter.unnecessarySimpa false
set_option linter.unusedVariables false
set_option linter.unusedSimpArgs false
open Go.RowKit

/-- What a step comes to. -/
def StepPost (w : World) (g : Nat) (pre us post : List Nat) (U V : Nat) (e : Ending) (w' : World) : Prop :=
  ∃ (q' : Nat) (ms : List Nat), e = .returned (.int .u64 (q' : Int)) ∧ q' < 4294967296 ∧ ms.length = us.length ∧ val ms + q' * V = U ∧ val ms < V ∧ Buf w' g (pre ++ (ms ++ post)) ∧ Only g w w'

set_option maxHeartbeats 1000000 in
theorem step_any {A : Option Addr} {n cv cu g j m : Nat} {vs pre us post : List Nat} {w : World} (hv : Words w (.slice A n cv) vs) (hu : Buf w g (pre ++ (us ++ post))) (hne : ∀ b o, A = some ⟨b, o, none⟩ → b ≠ g)
    (hj : pre.length = j) (hm : us.length = m) (hmn : m = n + 1) (hcu : m ≤ cu) (hsz : n ≤ 17179869184) (hjz : j ≤ 34359738368) (q U V : Nat) (hq : q < 4294967296) (hU : val us = U) (hV : val vs = V) (hq1 : q * V ≤ U + V) (hq2 : U < (q + 1) * V) :
    Calls Try.prog 125 #[.slice (some ⟨g, j, none⟩) m cu, .slice A n cv, .int .u64 (q : Int)] w (StepPost w g pre us post U V) := by
  have hn := Lib.hid hv.len.1
  have HA := Lib.hid hv
  have hwv := Lib.hid hv.1
  have hwu : Hid (Wf us) := Lib.hid hu.1.right.left
  have HJ := Lib.hid hj
  have HM := Lib.hid hm
  have HU := Lib.hid hU
  have HV := Lib.hid hV
  have HQ1 := Lib.hid hq1
  have HQ2 := Lib.hid hq2
  have HNE := Lib.hid hne
  have HMN := Lib.hid hmn
  have hmn1 : m ≤ n + 1 := by omega
  have hmn2 : n + 1 ≤ m := by omega
  clear hv hj hm hU hV hq1 hq2 hne hmn
  go_enter Try.func125, Try.ntmps125
  go_wp2
  go_loopw [7, 8, 14] (fun c b i wr => ∃ (k d e : Nat) (ms : List Nat), k ≤ m ∧ d < 4294967296 ∧ e ≤ 1 ∧ c = .int .u64 (d : Int) ∧ b = .int .u64 (e : Int) ∧ i = .int .i64 (k : Int) ∧ Hid (ms.length = k) ∧ Hid (k = m → d = 0) ∧
    Hid (val ms + q * val (vs.take k) = val (us.take k) + 4294967296 ^ k * (e + d)) ∧ Buf wr g (pre ++ ((ms ++ us.drop k) ++ post)) ∧ Only g w wr) (fun _ _ i _ => m - (intOf i).toNat)
  case atStart => exact ⟨0, 0, 0, [], by omega, by omega, by omega, rfl, rfl, rfl, rfl, fun _ => rfl, by simp [Hid, val], by simpa using hu, Only.refl _ _⟩
  case round =>
    obtain ⟨k, d, e, ms, hk, hd, he, rfl, rfl, rfl, HK, HD0, HE, hbuf, ho⟩ := hrel
    have hgl := hbuf.lt
    by_cases hk1 : k < m
    · have hlen := mid_len pre ms us post k HK.out (by rw [HM.out]; omega)
      have hst := hbuf.cell (j + k) (by rw [hlen, HJ.out, HM.out]; omega)
      rw [← HJ.out, mid_get pre ms us post k HK.out (by rw [HM.out]; omega), HJ.out] at hst
      have hfz := hbuf.frozen (j + k)
      have hul := hwu.out.get? k
      have HBUF := Lib.hid hbuf
      clear hlen hbuf hu
      by_cases hk2 : k < n
      · have hY := Only.words HA.out ho HNE.out
        obtain ⟨b2, o2, rfl, hcy⟩ := hY.open_ (by omega)
        have hcy := hcy k hk2
        have hyl := hwv.out.get? k
        obtain ⟨m', hm'⟩ : ∃ m', m' = q * vs[k]?.getD 0 := ⟨_, rfl⟩
        have hmi : (q : Int) * ((vs[k]?.getD 0 : Nat) : Int) = (m' : Int) := by rw [hm']; exact (Int.natCast_mul _ _).symm
        have hc := step_carry q (vs[k]?.getD 0) d hq hyl hd
        rw [← hm'] at hc
        obtain ⟨hc1, hc2⟩ := hc
        have hand := and_mask (d + m') (by omega)
        obtain ⟨D1, D, z, b', hD1, hD, hDz, hDb, hz, hb', hzz⟩ := sub_word2 (us[k]?.getD 0) ((d + m') % 4294967296) e hul (by omega) he
        obtain ⟨lo, hlo⟩ : ∃ lo, lo = (d + m') % 4294967296 := ⟨_, rfl⟩
        rw [← hlo] at hand hD1 hzz
        rw [Int.natCast_add] at hand
        have HMP := Lib.hid hm'
        have HLO := Lib.hid hlo
        have HZZ := Lib.hid hzz
        clear hY hm' hlo hzz
        go_wp2
        go_roundw
        case rel =>
          refine ⟨k + 1, (d + m') / 4294967296, b', ms ++ [z], by omega, hc2, hb', by go_num, rfl, rfl, ?_, fun h => by exfalso; omega, ?_, ?_, ho.set _ _⟩
          · rw [Hid, List.length_append, HK.out]; rfl
          · exact step_val us vs ms k q d e z b' (d + m') HK.out HE.out (by rw [HMP.out]; rfl) (by rw [← HLO.out]; exact HZZ.out)
          · have h := HBUF.out.set (j + k) z _ hz rfl
            rw [← HJ.out, mid_set pre ms us post k z HK.out (by rw [HM.out]; omega), HJ.out] at h
            exact h
        case measure => simp [intOf]; omega
      · have hv0 : vs.getD k 0 = 0 := getD_out (by have := hn.out; omega)
        have HV0 := Lib.hid hv0
        have hand := and_mask d (by omega)
        obtain ⟨D1, D, z, b', hD1, hD, hDz, hDb, hz, hb', hzz⟩ := sub_word2 (us[k]?.getD 0) (d % 4294967296) e hul (by omega) he
        obtain ⟨lo, hlo⟩ : ∃ lo, lo = d % 4294967296 := ⟨_, rfl⟩
        rw [← hlo] at hand hD1 hzz
        have HLO := Lib.hid hlo
        have HZZ := Lib.hid hzz
        clear hlo hzz hv0
        go_wp2
        go_roundw
        case rel =>
          refine ⟨k + 1, d / 4294967296, b', ms ++ [z], by omega, by omega, hb', by go_num, rfl, rfl, ?_, fun h => by omega, ?_, ?_, ho.set _ _⟩
          · rw [Hid, List.length_append, HK.out]; rfl
          · exact step_val us vs ms k q d e z b' d HK.out HE.out (by rw [HV0.out]; rfl) (by rw [← HLO.out]; exact HZZ.out)
          · have h := HBUF.out.set (j + k) z _ hz rfl
            rw [← HJ.out, mid_set pre ms us post k z HK.out (by rw [HM.out]; omega), HJ.out] at h
            exact h
        case measure => simp [intOf]; omega
    · obtain rfl : k = m := by omega
      have hd0 := HD0.out rfl
      have h1 := HE.out
      rw [val_take_all us _ (by rw [HM.out]; exact Nat.le_refl _), val_take_all vs _ (by rw [← hn.out]; omega), HU.out, HV.out, hd0, Nat.add_zero] at h1
      have h2 : us.drop k = [] := List.drop_of_length_le (by rw [HM.out]; exact Nat.le_refl _)
      rw [h2, List.append_nil] at hbuf
      have hwm := Lib.hid hbuf.1.right.left
      have H1 := Lib.hid h1
      have HBUF := Lib.hid hbuf
      clear h1 h2 hd0 hbuf hu
      by_cases he0 : e = 0
      · subst he0
        have hfin := step_end0 us ms U V q k HU.out H1.out HQ2.out
        have HF := Lib.hid hfin
        clear hfin
        go_wp2
        go_ret
        exact ⟨q, ms, rfl, hq, by rw [HK.out, HM.out], HF.out.1, HF.out.2, HBUF.out, ho⟩
      · obtain rfl : e = 1 := by omega
        have hq1 : 1 ≤ q := by
          have h3 := val_lt ms hwm.out
          rw [HK.out] at h3
          have h4 := H1.out
          rcases Nat.eq_zero_or_pos q with h | h
          · rw [h] at h4; omega
          · exact h
        obtain ⟨wm, rfl⟩ : ∃ wm : World, wm = wr := ⟨_, rfl⟩
        have HO := Lib.hid ho
        have hqi : (1 : Int) ≤ (q : Int) := by omega
        clear ho
        go_wp2
        go_loopw [7, 56] (fun c i wr => ∃ (k' d : Nat) (ns : List Nat), k' ≤ k ∧ d ≤ 1 ∧ c = .int .u64 (d : Int) ∧ i = .int .i64 (k' : Int) ∧ Hid (ns.length = k') ∧
          Hid (val ns + 4294967296 ^ k' * d = val (ms.take k') + val (vs.take k')) ∧ Buf wr g (pre ++ ((ns ++ ms.drop k') ++ post)) ∧ Only g w wr) (fun _ i _ => k - (intOf i).toNat)
        case atStart => exact ⟨0, 0, [], by omega, by omega, rfl, rfl, rfl, by simp [Hid, val], by simpa using HBUF.out, HO.out⟩
        case round =>
          obtain ⟨k', d', ns, hk', hd', rfl, rfl, HK', HE', hbuf, ho⟩ := hrel
          have hgl := hbuf.lt
          by_cases hk1 : k' < k
          · have hlen := mid_len pre ns ms post k' HK'.out (by rw [HK.out]; omega)
            have hst := hbuf.cell (j + k') (by rw [hlen, HJ.out, HK.out]; omega)
            rw [← HJ.out, mid_get pre ns ms post k' HK'.out (by rw [HK.out]; omega), HJ.out] at hst
            have hfz := hbuf.frozen (j + k')
            have hul := hwm.out.get? k'
            have HBUF2 := Lib.hid hbuf
            clear hlen hbuf HBUF
            by_cases hk2 : k' < n
            · have hY := Only.words HA.out ho HNE.out
              obtain ⟨b2, o2, rfl, hcy⟩ := hY.open_ (by omega)
              have hcy := hcy k' hk2
              have hyl := hwv.out.get? k'
              clear hY
              go_wp2
              go_roundw
              case rel =>
                refine ⟨k' + 1, (d' + ms.getD k' 0 + vs.getD k' 0) / 4294967296, ns ++ [(d' + ms.getD k' 0 + vs.getD k' 0) % 4294967296], by omega, by simp only [List.getD]; omega, by simp only [List.getD]; go_num, rfl, ?_, more_val _ _ _ _ _ _ HK'.out HE'.out rfl, ?_, ho.set _ _⟩
                · rw [Hid, List.length_append, HK'.out]; rfl
                · have h := HBUF2.out.set (j + k') ((d' + ms.getD k' 0 + vs.getD k' 0) % 4294967296) _ (by omega) (by simp only [List.getD]; go_num)
                  rw [← HJ.out, mid_set pre ns ms post k' _ HK'.out (by rw [HK.out]; omega), HJ.out] at h
                  exact h
              case measure => simp [intOf]; omega
            · have hv0 : vs.getD k' 0 = 0 := getD_out (by have := hn.out; omega)
              have HV0 := Lib.hid hv0
              clear hv0
              go_wp2
              go_roundw
              case rel =>
                refine ⟨k' + 1, (d' + ms.getD k' 0 + vs.getD k' 0) / 4294967296, ns ++ [(d' + ms.getD k' 0 + vs.getD k' 0) % 4294967296], by omega, by rw [HV0.out]; simp only [List.getD]; omega, by rw [HV0.out]; simp only [List.getD]; go_num, rfl, ?_, more_val _ _ _ _ _ _ HK'.out HE'.out rfl, ?_, ho.set _ _⟩
                · rw [Hid, List.length_append, HK'.out]; rfl
                · have h := HBUF2.out.set (j + k') ((d' + ms.getD k' 0 + vs.getD k' 0) % 4294967296) _ (by omega) (by rw [HV0.out]; try (simp only [List.getD]; try go_num))
                  rw [← HJ.out, mid_set pre ns ms post k' _ HK'.out (by rw [HK.out]; omega), HJ.out] at h
                  exact h
              case measure => simp [intOf]; omega
          · obtain rfl : k' = k := by omega
            have h1 := HE'.out
            rw [val_take_all ms _ (by rw [HK.out]; exact Nat.le_refl _), val_take_all vs _ (by rw [← hn.out]; omega), HV.out] at h1
            have h2 : ms.drop k' = [] := List.drop_of_length_le (by rw [HK.out]; exact Nat.le_refl _)
            rw [h2, List.append_nil] at hbuf
            have hVl : V < 4294967296 ^ k' := by
              have h3 := val_lt vs hwv.out
              rw [HV.out, ← hn.out] at h3
              exact Nat.lt_of_lt_of_le h3 (Nat.pow_le_pow_right (by omega) (by omega))
            have hfin := step_end1 ms ns U V q k' d' H1.out hwm.out HK.out hbuf.1.right.left HK'.out hd' h1 hVl HQ1.out
            have HF := Lib.hid hfin
            have HBUF2 := Lib.hid hbuf
            clear hfin hbuf h1 h2 HBUF hVl
            go_wp2
            go_ret
            exact ⟨q - 1, ns, by rw [Int.ofNat_sub (by omega)]; rfl, by omega, by rw [HK'.out, HM.out], HF.out.2.1, HF.out.2.2, HBUF2.out, ho⟩
end Go.Proofs.Ytaenedjanckaiaa
