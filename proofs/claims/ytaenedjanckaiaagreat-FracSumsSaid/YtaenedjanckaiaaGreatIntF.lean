/- Package big: whole numbers: String. -/
import Derived.Test.YtaenedjanckaiaaGreatIntE
namespace Go.Proofs.YtaenedjanckaiaaGreat
set_option linter.unnecessarySimpa false
set_option linter.unusedVariables false
set_option linter.unusedSimpArgs false
open Go.RowKit

theorem BRow.size_le {w : World} {base g cap n : Nat} {zs : List Nat} {cs : Array Value} {fr : Nat × Nat} {t : TypeId} (h : BRow w base (.slice (some ⟨g, 0, none⟩) n cap) zs) (k : w.heap[g]? = some (.cells cs t fr)) (hn : n = zs.length) : zs.length ≤ cs.size := by
  obtain ⟨_, _, h2⟩ := h
  rcases h2 with ⟨e, _⟩ | ⟨g', cap', cur, e, _, hh, hc, _, hcs, _⟩
  · cases e
  · injection e with e
    injection e with e
    injection e with e
    subst e
    rw [hh] at k
    injection k with k
    injection k with k
    subst k
    omega
theorem dd_len_words (n : Nat) : (dd n).length ≤ 32 * (dig n).length := by
  refine dd_len _ _ ?_
  have := dig_lt n
  rw [p32] at this
  exact Nat.lt_of_lt_of_le this (Nat.pow_le_pow_left (by decide) _)
/-- A number whose text may be told. -/
def Okt (n : Int) : Prop := (dig n.natAbs).length ≤ 134217728

set_option maxRecDepth 100000 in
set_option maxHeartbeats 1600000 in
theorem String_any {w : World} {b o : Nat} {n : Int} (hx : IntAt w b o n) (hn : Okt n) :
    Calls Tryz.prog 123 #[.pointer (some ⟨b, o, none⟩)] w fun e w' => e = .returned (.string (textN n)) ∧ Below w.heap.size w w' := by
  obtain ⟨A, l, c, h0, h1, h2, hlt⟩ := hx.open_
  have hl := h2.len.1
  obtain ⟨N, hN⟩ : ∃ N, N = n.natAbs := ⟨_, rfl⟩
  unfold Okt at hn
  rw [← hN] at h2 hl hn
  have HN := Lib.hid hN
  have HO := Lib.hid hn
  have HX := Lib.hid hx
  rcases Nat.eq_zero_or_pos l with hz | hz
  · subst hz
    have hn0 : N = 0 := (dig_nil_iff _).1 (List.eq_nil_of_length_eq_zero hl.symm)
    have HT : Hid (textN n = ⟨#[48]⟩) := by
      have : n = 0 := by have := HN.out; omega
      rw [this]; rfl
    clear hN h2 hl hn hn0 hx h0
    go_enter Tryz.func123, Tryz.ntmps123
    go_wp2
    go_ret
    exact ⟨by rw [HT.out]; rfl, Below.refl _ _⟩
  · have hNp : 0 < N := by
      rcases Nat.eq_zero_or_pos N with h | h
      · rw [h, dig_zero] at hl; simp at hl; omega
      · exact h
    obtain ⟨s, hs⟩ : ∃ s, s = decide (n < 0) := ⟨_, rfl⟩
    rw [← hs] at h0
    have HSG := Lib.hid hs
    have HNP := Lib.hid hNp
    have hl00 : ((l : Int) == 0) = false := by rw [beq_eq_false_iff_ne]; omega
    have HW := Lib.hid h2
    clear hN h2 hl hn hNp hs hx h0
    go_enter Tryz.func123, Tryz.ntmps123
    go_wp2
    go_loopg [3, 4] N (fun k v x wr => ∃ (B : Option Addr) (lb cb R : Nat) (ds : List Nat), x = .slice B lb cb ∧ R ≤ k ∧ Hid (Words wr (.slice B lb cb) (dig R)) ∧ Hid (BRow wr w.heap.size v ds) ∧ Hid (dd N = ds ++ dd R) ∧ Hid (Below w.heap.size w wr))
    case atStart => exact ⟨A, l, c, N, [], rfl, Nat.le_refl _, HW.out, BRow.nil _ _, rfl, Below.refl _ _⟩
    case round =>
      obtain ⟨B, lb, cb, R, ds, rfl, hR, hRW, hrow, hdd, hb⟩ := hrel
      have hlb := hRW.out.len.1
      have hlm := hRW.out.2.1
      by_cases hlp : 0 < lb
      · have hRp : 0 < R := by
          rcases Nat.eq_zero_or_pos R with h | h
          · rw [h, dig_zero] at hlb; simp at hlb; omega
          · exact h
        have HRP := Lib.hid hRp
        have hlm2 : lb ≤ 17179869184 := by omega
        clear hlb hlm hRp
        go_wp2_with fail
        refine (short_dig hRW.out 1000000000 (by omega) (by omega)).mono ?_
        rintro e w1 ⟨v1, r0, rfl, hr, hrb, hq, hb1⟩
        obtain ⟨q, hqd⟩ : ∃ q, q = R / 1000000000 := ⟨_, rfl⟩
        rw [← hqd] at hq
        obtain ⟨A1, l1, c1, rfl⟩ := hq.form
        have HQ := Lib.hid hq
        have HB1 := Lib.hid hb1
        have HQD := Lib.hid hqd
        have hl1 := hq.len
        have hl1b : l1 ≤ 17179869184 := by have := hq.2.1; omega
        have HL1 : Hid (l1 = 0 ↔ q = 0) := by
          have := dig_nil_iff q
          rw [Hid, hl1.1]
          exact List.length_eq_zero_iff.trans this
        clear hq hb1 hqd hl1
        go_wp2
        go_loopw [3, 5, 6] (fun v r k wr => ∃ (i R' r' : Nat) (ds' : List Nat), i ≤ 9 ∧ k = .int .i64 (i : Int) ∧ r = .int .u32 (r' : Int) ∧ r' < 1000000000 ∧ Hid (r' < 10 ^ (9 - i)) ∧ Hid (R' = r' + 10 ^ (9 - i) * q) ∧ Hid (dd N = ds' ++ dd R') ∧ Hid (BRow wr w.heap.size v ds') ∧ Hid (Words wr (.slice A1 l1 c1) (dig q)) ∧ Hid (Below w.heap.size w wr)) (fun _ _ k _ => 9 - (intOf k).toNat)
        case atStart =>
          refine ⟨0, R, r0, ds, by omega, rfl, rfl, hrb, by rw [Hid, Nat.sub_zero]; exact hrb, ?_, hdd, ?_, HQ.out, ?_⟩
          · rw [Hid, Nat.sub_zero, hr.out, HQD.out]; omega
          · exact hrow.out.on HB1.out
          · exact hb.out.trans (HB1.out.mono hb.out.size)
        case round =>
          obtain ⟨i, R', r', ds', hi, rfl, rfl, hr9, hrp, hRR, hdd', hrow', hQ', hb'⟩ := hrel
          have hdl : ds'.length ≤ 4294967296 := by
            have h1 := dd_len_words N
            have h2 := HO.out
            have h3 := congrArg List.length hdd'.out
            rw [List.length_append] at h3
            omega
          by_cases hgo : i < 9 ∧ (0 < r' ∨ 0 < l1)
          · obtain ⟨hi9, hor⟩ := hgo
            have hpq : 0 < r' ∨ 0 < q := hor.imp id fun h => by have := HL1.out; omega
            obtain ⟨k1, k2⟩ := dd_step hdd'.out hRR.out hi9 hpq
            have K1 := Lib.hid k1
            have K2 := Lib.hid k2
            have K3 : Hid (r' / 10 < 10 ^ (9 - (i + 1))) := by
              have h1 := hrp.out
              rw [show 9 - i = (9 - (i + 1)) + 1 by omega, Nat.pow_succ] at h1
              exact Nat.div_lt_of_lt_mul (by rw [Nat.mul_comm]; exact h1)
            have hd0 : (48 : Int) + (r' : Int) % 10 = ((48 + r' % 10 : Nat) : Int) := by omega
            have hd1 : 48 + r' % 10 < 256 := by omega
            obtain ⟨z, hz'⟩ : ∃ z, z = 48 + r' % 10 := ⟨_, rfl⟩
            rw [← hz'] at hd0 hd1 K1
            have hbl := Lib.hid hb'.out.size
            have hrowA := Lib.hid hrow'
            clear k1 k2 hz' hpq
            have hstep : ∀ (v' : Value) (w' : World), BRow w' w.heap.size v' (ds' ++ [z]) → Below w.heap.size w w' → Words w' (.slice A1 l1 c1) (dig q) → True := fun _ _ _ _ _ => trivial
            clear hstep
            rcases (by omega : 0 < r' ∨ (r' = 0 ∧ 0 < l1)) with hor | ⟨rfl, hor⟩
            all_goals
              go_wp2_with (at_builtin; refine wpList_append_byte rfl (.tmp 40) (.tmp 45) rfl w.heap.size _ ds' rfl (hrow'.out.alloc _) ⟨wr.heap.size, 0, none⟩ 1 z _ rfl (cell_new0 _ _ _) ?_ hd1 ?_ ?_ ?_)
              · omega
              · omega
              · have := hbl.out; simp; omega
              · intro v' w' hrow2 hb2 hws
                have HR2 := Lib.hid hrow2
                have HB3 := Lib.hid ((hb'.out.alloc hb'.out.size _).trans hb2)
                have HW2 := Lib.hid (hws _ _ (hQ'.out.below ((Below.refl _ _).alloc (Nat.le_refl _) _)))
                clear hrow2 hb2 hws
                go_wp2
                go_roundw
                case rel => first | exact ⟨i + 1, R' / 10, r' / 10, ds' ++ [z], by omega, by go_num, rfl, by omega, K3, K2, K1, HR2, HW2, HB3⟩ | exact ⟨i + 1, R' / 10, 0, ds' ++ [z], by omega, by go_num, rfl, by omega, K3, K2, K1, HR2, HW2, HB3⟩
                case measure => simp [intOf]; omega
          · have hend : r' = 0 ∧ R' = q ∧ (i = 9 ∨ (i < 9 ∧ l1 = 0)) := by
              have h1 := hrp.out
              have h2 := hRR.out
              have h3 := HL1.out
              rcases Nat.lt_or_ge i 9 with h | h
              · have : r' = 0 := by omega
                have h5 : l1 = 0 := by omega
                have h4 := h3.1 h5
                subst h4
                refine ⟨this, by rw [h2, this]; simp, .inr ⟨h, h5⟩⟩
              · obtain rfl : i = 9 := by omega
                simp at h1 h2
                exact ⟨by omega, by omega, .inl rfl⟩
            obtain ⟨rfl, e2, hcase⟩ := hend
            have HE2 := Lib.hid e2
            have HQR : Hid (q < R) := by have := HQD.out; have := HRP.out; unfold Hid; omega
            clear hgo e2
            rcases hcase with rfl | ⟨h9, rfl⟩
            all_goals
              go_wp2
              go_roundg q
              case measure => exact Nat.lt_of_lt_of_le HQR.out hR
              case rel => exact ⟨A1, _, c1, q, ds', rfl, Nat.le_refl _, hQ', hrow', by rw [← HE2.out]; exact hdd', hb'⟩
      · obtain rfl : lb = 0 := by omega
        have hR0 := (dig_nil_iff R).1 (List.eq_nil_of_length_eq_zero hlb.symm)
        subst hR0
        have hdd2 := hdd.out
        rw [dd_zero, List.append_nil] at hdd2
        have hbl := Lib.hid hb.out.size
        have hx2 := HX.out.on hb.out
        obtain ⟨A2, l2, c2, h20, h21, h22, h2lt⟩ := hx2.open_
        rw [← HSG.out] at h20
        have hdl : ds.length ≤ 4294967296 := by
          have h1 := dd_len_words N
          have h2 := HO.out
          rw [hdd2] at h1
          omega
        have hdp : 0 < ds.length := by
          have := HNP.out
          rw [← hdd2, dd_pos N this]
          simp
        have HDD := Lib.hid hdd2
        clear hlb hlm hdd2 h21 h22 hx2
        cases s
        · obtain ⟨zs, hzs⟩ : ∃ zs, zs = ds := ⟨_, rfl⟩
          obtain ⟨len, hlen⟩ : ∃ len, len = ds.length := ⟨_, rfl⟩
          have HTXT : Hid (strN zs.reverse = textN n) := by
            have h1 : ¬ n < 0 := by have := HSG.out; simpa using this
            have h2 : n ≠ 0 := by have := HNP.out; have := HN.out; omega
            rw [Hid, textN, txt, if_neg h2, if_neg h1, List.append_nil, ← HN.out, HDD.out, hzs]
          have HLEN : Hid (zs.length = len) := by rw [hzs, hlen]; rfl
          have HROW := hrow
          rw [← hzs] at HROW
          have hlenp : 0 < len := by omega
          have hlenb : len ≤ 4294967297 := by omega
          have HBB := hb
          clear hzs hlen hdp hdl hrow hb
          obtain ⟨g, cap, cs, rfl, hg, hcap, hh, hcs⟩ := HROW.out.open_ (by rw [HLEN.out]; omega)
          rw [HLEN.out]
          have hbb : BBuf wr g (turned zs 0) := by rw [turned_zero]; exact ⟨HROW.out.1, cs, hh, by have := HROW.out.size_le hh rfl; exact this, hcs⟩
          clear hh hcs hcap
          go_wp2
          go_loopw [7, 8] (fun i k wr => ∃ (j : Nat), j ≤ len ∧ i = .int .i64 (j : Int) ∧ k = .int .i64 ((len : Int) - 1 - (j : Int)) ∧ BBuf wr g (turned zs j) ∧ Below w.heap.size w wr) (fun i _ _ => len - (intOf i).toNat)
          case atStart => exact ⟨0, by omega, rfl, by go_num, hbb, HBB.out⟩
          case round =>
            obtain ⟨j, hj, rfl, rfl, hb', hbl⟩ := hrel
            have hsz := hbl.size
            have hgl := hb'.lt
            clear hbb
            by_cases hlt : (j : Int) < (len : Int) - 1 - (j : Int)
            · obtain ⟨m, hm⟩ : ∃ m, m = len - 1 - j := ⟨_, rfl⟩
              have hmi : (len : Int) - 1 - (j : Int) = (m : Int) := by omega
              obtain ⟨x, hx⟩ : ∃ x, x = zs.getD j 0 := ⟨_, rfl⟩
              obtain ⟨y, hy⟩ : ∃ y, y = zs.getD m 0 := ⟨_, rfl⟩
              have hjm : j < m := by omega
              have hml : m < len := by omega
              have hc1 := hb'.cell j (by rw [turned_len, HLEN.out]; omega)
              have hc2 := hb'.cell m (by rw [turned_len, HLEN.out]; omega)
              rw [turned_getD zs j j (Nat.le_refl _) (by rw [HLEN.out]; omega), ← hx] at hc1
              rw [turned_getD zs j m (by omega) (by rw [HLEN.out]; omega), ← hy] at hc2
              have hx8 : x < 256 := by rw [hx]; exact HROW.out.1.getD _
              have hy8 : y < 256 := by rw [hy]; exact HROW.out.1.getD _
              have hf1 := hb'.frozen j
              have hf2 := hb'.frozen m
              have hset := (hb'.set j y _ hy8 rfl).set m x _ hx8 rfl
              have hset2 := (hb'.set m x _ hx8 rfl).set j y _ hy8 rfl
              have hts := turned_step zs j m (by rw [HLEN.out]; omega) hjm
              rw [← hx, ← hy] at hts
              have hts2 : ((turned zs j).set m x).set j y = turned zs (j + 1) := by rw [List.set_comm _ _ (by omega)]; exact hts
              rw [hts] at hset
              rw [hts2] at hset2
              have HS := Lib.hid hset
              have HS2 := Lib.hid hset2
              have HBL := Lib.hid hbl
              have HM := Lib.hid hm
              have hgg : w.heap.size ≤ g := hg
              rw [hmi]
              clear hset hset2 hts hts2 hx hy hb' hbl hm hmi hlt
              go_wp2
              go_region
              go_wp2
              go_roundw
              case rel =>
                have hm := HM.out
                refine ⟨j + 1, by omega, by go_num, by go_num, ?_, ?_⟩
                · first | exact HS.out | exact HS2.out
                · exact Below.drew ((HBL.out.setCell hgg _).setCell hgg _)
              case measure => simp [intOf]; omega
            · have ht := turned_done zs j (by rw [HLEN.out]; omega)
              rw [ht] at hb'
              have hs := fun cap => string_of_byt (hb'.byt (n := len) (cap := cap) (by rw [List.length_reverse, HLEN.out]))
              rw [HTXT.out] at hs
              have HBL := Lib.hid hbl
              clear ht hb' hbl
              go_wp2
              go_ret
              exact ⟨rfl, HBL.out⟩
        · go_wp2_with (at_builtin; refine wpList_append_byte rfl (.tmp 53) (.tmp 54) rfl w.heap.size _ ds rfl (hrow.out.alloc _) ⟨wr.heap.size, 0, none⟩ 1 45 _ rfl (cell_new0 _ _ _) rfl (by omega) ?_ ?_ ?_)
          · omega
          · have := hbl.out; simp; omega
          intro v' w' hrow2 hb2 hws
          obtain ⟨zs, hzs⟩ : ∃ zs, zs = ds ++ [45] := ⟨_, rfl⟩
          obtain ⟨len, hlen⟩ : ∃ len, len = ds.length + 1 := ⟨_, rfl⟩
          have HTXT : Hid (strN zs.reverse = textN n) := by
            have h1 : n < 0 := by have := HSG.out; simpa using this.symm
            have h2 : n ≠ 0 := by omega
            rw [Hid, textN, txt, if_neg h2, if_pos h1, ← HN.out, HDD.out, hzs]
          have HLEN : Hid (zs.length = len) := by rw [hzs, hlen]; simp [Hid]
          have HROW := Lib.hid hrow2
          rw [← hzs] at HROW
          have hlenp : 0 < len := by omega
          have hlenb : len ≤ 4294967297 := by omega
          have HBB := Lib.hid ((hb.out.alloc hb.out.size _).trans hb2)
          clear hzs hlen hdp hdl hrow hb hrow2 hb2 hws
          obtain ⟨g, cap, cs, rfl, hg, hcap, hh, hcs⟩ := HROW.out.open_ (by rw [HLEN.out]; omega)
          rw [HLEN.out]
          have hbb : BBuf w' g (turned zs 0) := by rw [turned_zero]; exact ⟨HROW.out.1, cs, hh, by have := HROW.out.size_le hh rfl; exact this, hcs⟩
          clear hh hcs hcap
          go_wp2
          go_loopw [7, 8] (fun i k wr => ∃ (j : Nat), j ≤ len ∧ i = .int .i64 (j : Int) ∧ k = .int .i64 ((len : Int) - 1 - (j : Int)) ∧ BBuf wr g (turned zs j) ∧ Below w.heap.size w wr) (fun i _ _ => len - (intOf i).toNat)
          case atStart => exact ⟨0, by omega, rfl, by go_num, hbb, HBB.out⟩
          case round =>
            obtain ⟨j, hj, rfl, rfl, hb', hbl⟩ := hrel
            have hsz := hbl.size
            have hgl := hb'.lt
            clear hbb
            by_cases hlt : (j : Int) < (len : Int) - 1 - (j : Int)
            · obtain ⟨m, hm⟩ : ∃ m, m = len - 1 - j := ⟨_, rfl⟩
              have hmi : (len : Int) - 1 - (j : Int) = (m : Int) := by omega
              obtain ⟨x, hx⟩ : ∃ x, x = zs.getD j 0 := ⟨_, rfl⟩
              obtain ⟨y, hy⟩ : ∃ y, y = zs.getD m 0 := ⟨_, rfl⟩
              have hjm : j < m := by omega
              have hml : m < len := by omega
              have hc1 := hb'.cell j (by rw [turned_len, HLEN.out]; omega)
              have hc2 := hb'.cell m (by rw [turned_len, HLEN.out]; omega)
              rw [turned_getD zs j j (Nat.le_refl _) (by rw [HLEN.out]; omega), ← hx] at hc1
              rw [turned_getD zs j m (by omega) (by rw [HLEN.out]; omega), ← hy] at hc2
              have hx8 : x < 256 := by rw [hx]; exact HROW.out.1.getD _
              have hy8 : y < 256 := by rw [hy]; exact HROW.out.1.getD _
              have hf1 := hb'.frozen j
              have hf2 := hb'.frozen m
              have hset := (hb'.set j y _ hy8 rfl).set m x _ hx8 rfl
              have hset2 := (hb'.set m x _ hx8 rfl).set j y _ hy8 rfl
              have hts := turned_step zs j m (by rw [HLEN.out]; omega) hjm
              rw [← hx, ← hy] at hts
              have hts2 : ((turned zs j).set m x).set j y = turned zs (j + 1) := by rw [List.set_comm _ _ (by omega)]; exact hts
              rw [hts] at hset
              rw [hts2] at hset2
              have HS := Lib.hid hset
              have HS2 := Lib.hid hset2
              have HBL := Lib.hid hbl
              have HM := Lib.hid hm
              have hgg : w.heap.size ≤ g := hg
              rw [hmi]
              clear hset hset2 hts hts2 hx hy hb' hbl hm hmi hlt
              go_wp2
              go_region
              go_wp2
              go_roundw
              case rel =>
                have hm := HM.out
                refine ⟨j + 1, by omega, by go_num, by go_num, ?_, ?_⟩
                · first | exact HS.out | exact HS2.out
                · exact Below.drew ((HBL.out.setCell hgg _).setCell hgg _)
              case measure => simp [intOf]; omega
            · have ht := turned_done zs j (by rw [HLEN.out]; omega)
              rw [ht] at hb'
              have hs := fun cap => string_of_byt (hb'.byt (n := len) (cap := cap) (by rw [List.length_reverse, HLEN.out]))
              rw [HTXT.out] at hs
              have HBL := Lib.hid hbl
              clear ht hb' hbl
              go_wp2
              go_ret
              exact ⟨rfl, HBL.out⟩
end Go.Proofs.YtaenedjanckaiaaGreat
