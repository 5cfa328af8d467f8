/- Package big: whole numbers: Add, Sub, Cmp, GCD, SetInt64, NewInt, QuoRem, Quo. -/
import Derived.Test.YtaenedjanckaiaaGreatInt
namespace Go.Proofs.YtaenedjanckaiaaGreat
set_option linter.unnecessarySimpa false
set_option linter.unusedVariables false
set_option linter.unusedSimpArgs false
open Go.RowKit

theorem sg_not (m : Int) : sg (!decide (m < 0)) m.natAbs = -m := by
  by_cases h : m < 0
  · simp [sg, h]; omega
  · simp [sg, h]; omega

theorem Add_any {w : World} {b o c p d q : Nat} {n m : Int} (hz : Slot w b o 2) (hx : IntAt w c p n) (hy : IntAt w d q m) (hn : Okn n) (hm : Okn m) :
    Calls Tryz.prog 94 #[.pointer (some ⟨b, o, none⟩), .pointer (some ⟨c, p, none⟩), .pointer (some ⟨d, q, none⟩)] w fun e w' => e = .returned (.pointer (some ⟨b, o, none⟩)) ∧ IntAt w' b o (n + m) ∧ Touch w w' b o 2 := by
  have hc := hy.2.1
  have H := Lib.hid (add_any (decide (m < 0)) hz hx hy hn hm)
  clear hx hy hz hn hm
  go_enter Tryz.func94, Tryz.ntmps94
  go_wp2_with (go_at_call 113; refine H.out.mono ?_; rintro e w1 ⟨rfl, h1, h2⟩)
  go_ret
  rw [sg_of] at h1
  exact ⟨rfl, h1, h2⟩

theorem Sub_any {w : World} {b o c p d q : Nat} {n m : Int} (hz : Slot w b o 2) (hx : IntAt w c p n) (hy : IntAt w d q m) (hn : Okn n) (hm : Okn m) :
    Calls Tryz.prog 79 #[.pointer (some ⟨b, o, none⟩), .pointer (some ⟨c, p, none⟩), .pointer (some ⟨d, q, none⟩)] w fun e w' => e = .returned (.pointer (some ⟨b, o, none⟩)) ∧ IntAt w' b o (n - m) ∧ Touch w w' b o 2 := by
  have hc := hy.2.1
  have H := Lib.hid (add_any (!decide (m < 0)) hz hx hy hn hm)
  clear hx hy hz hn hm
  obtain ⟨s, hs⟩ : ∃ s, s = decide (m < 0) := ⟨_, rfl⟩
  rw [← hs] at hc H
  have HS := Lib.hid hs
  clear hs
  go_enter Tryz.func79, Tryz.ntmps79
  go_wp2_with (go_at_call 113; refine H.out.mono ?_; rintro e w1 ⟨rfl, h1, h2⟩)
  go_ret
  rw [HS.out, sg_not] at h1
  exact ⟨rfl, h1, h2⟩

/-- -1, 0, 1. -/
def cmpI (n m : Int) : Int := if n < m then -1 else if m < n then 1 else 0
theorem cmpI_neg {n m : Int} (h : n < 0) (k : m < 0) : cmpN m.natAbs n.natAbs = cmpI n m := by
  unfold cmpN cmpI
  by_cases h1 : n < m
  · rw [if_pos h1, if_pos (by omega)]
  · rw [if_neg h1, if_neg (by omega)]
    by_cases h2 : m < n
    · rw [if_pos h2, if_pos (by omega)]
    · rw [if_neg h2, if_neg (by omega)]
theorem cmpI_pos {n m : Int} (h : ¬ n < 0) (k : ¬ m < 0) : cmpN n.natAbs m.natAbs = cmpI n m := by
  unfold cmpN cmpI
  by_cases h1 : n < m
  · rw [if_pos h1, if_pos (by omega)]
  · rw [if_neg h1, if_neg (by omega)]
    by_cases h2 : m < n
    · rw [if_pos h2, if_pos (by omega)]
    · rw [if_neg h2, if_neg (by omega)]

theorem Cmp_any {w : World} {c p d q : Nat} {n m : Int} (hx : IntAt w c p n) (hy : IntAt w d q m) :
    Calls Tryz.prog 95 #[.pointer (some ⟨c, p, none⟩), .pointer (some ⟨d, q, none⟩)] w fun e w' => e = .returned (.int .i64 (cmpI n m)) ∧ Below w.heap.size w w' := by
  obtain ⟨A, la, ca, hx0, hx1, hxv, hxl⟩ := hx.open_
  obtain ⟨B, lb, cb, hy0, hy1, hyv, hyl⟩ := hy.open_
  have HX1 := Lib.hid hx1
  have HXV := Lib.hid hxv
  have HY1 := Lib.hid hy1
  have HYV := Lib.hid hyv
  clear hx hy hx1 hxv hy1 hyv
  by_cases h : n < 0 <;> by_cases k : m < 0
  · have HF := Lib.hid (cmpI_neg h k)
    rw [decide_eq_true h] at hx0
    rw [decide_eq_true k] at hy0
    clear h k
    go_enter Tryz.func95, Tryz.ntmps95
    go_wp2
    clear hx0 hy0
    refine wp_region_acts 9 (fun w' => Below w.heap.size w w') (fun w w' => Below w.heap.size w w') (fun i w v => match i with
        | 0 => v = .pointer (some ⟨d, q, none⟩)
        | 1 => v = .pointer (some ⟨d, q, none⟩)
        | 2 => v = .pointer (some ⟨d, q + 1, none⟩)
        | 3 => v = .slice B lb cb
        | 4 => v = .pointer (some ⟨c, p, none⟩)
        | 5 => v = .pointer (some ⟨c, p, none⟩)
        | 6 => v = .pointer (some ⟨c, p + 1, none⟩)
        | 7 => v = .slice A la ca
        | _ => v = .int .i64 (cmpN m.natAbs n.natAbs)) (by kernel_rfl) (by kernel_rfl) (by kernel_rfl) ((Below.refl _ _).drew) (fun _ _ => Below.refl _ _) ?_ ⟨?_, ?_, ?_, ?_, ?_, ?_, ?_, ?_, ?_, trivial⟩ ?_
    · intro i w1 w2 v hC hC2 hE hV
      match i with
      | 0 => exact hV
      | 1 => exact hV
      | 2 => exact hV
      | 3 => exact hV
      | 4 => exact hV
      | 5 => exact hV
      | 6 => exact hV
      | 7 => exact hV
      | _ + 8 => exact hV
    · intro a' w' hag hC hd K hK
      have e1 : a'.tmps.getD 1 undef = .pointer (some ⟨d, q, none⟩) := hag 1 rfl
      go_step
      exact hK _ _ hC (Below.refl _ _) rfl
    · intro a' w' hag hC hd K hK
      have e16 : a'.tmps.getD 16 undef = .pointer (some ⟨d, q, none⟩) := hd.1
      go_step
      exact hK _ _ hC (Below.refl _ _) rfl
    · intro a' w' hag hC hd K hK
      have e17 : a'.tmps.getD 17 undef = .pointer (some ⟨d, q, none⟩) := hd.1
      go_step
      exact hK _ _ hC (Below.refl _ _) rfl
    · intro a' w' hag hC hd K hK
      have e18 : a'.tmps.getD 18 undef = .pointer (some ⟨d, q + 1, none⟩) := hd.1
      have hcell : w'.cell? ⟨d, q + 1, none⟩ = some (.slice B lb cb) := by rw [hC.cell (p := ⟨d, q + 1, none⟩) hyl]; exact HY1.out
      have HC := Lib.hid hC
      clear hC
      go_step
      exact hK _ _ HC.out (Below.refl _ _) rfl
    · intro a' w' hag hC hd K hK
      have e0 : a'.tmps.getD 0 undef = .pointer (some ⟨c, p, none⟩) := hag 0 rfl
      go_step
      exact hK _ _ hC (Below.refl _ _) rfl
    · intro a' w' hag hC hd K hK
      have e20 : a'.tmps.getD 20 undef = .pointer (some ⟨c, p, none⟩) := hd.1
      go_step
      exact hK _ _ hC (Below.refl _ _) rfl
    · intro a' w' hag hC hd K hK
      have e21 : a'.tmps.getD 21 undef = .pointer (some ⟨c, p, none⟩) := hd.1
      go_step
      exact hK _ _ hC (Below.refl _ _) rfl
    · intro a' w' hag hC hd K hK
      have e22 : a'.tmps.getD 22 undef = .pointer (some ⟨c, p + 1, none⟩) := hd.1
      have hcell : w'.cell? ⟨c, p + 1, none⟩ = some (.slice A la ca) := by rw [hC.cell (p := ⟨c, p + 1, none⟩) hxl]; exact HX1.out
      have HC := Lib.hid hC
      clear hC
      go_step
      exact hK _ _ HC.out (Below.refl _ _) rfl
    · intro a' w' hag hC hd K hK
      have e19 : a'.tmps.getD 19 undef = .slice B lb cb := hd.1
      have e23 : a'.tmps.getD 23 undef = .slice A la ca := hd.2.1
      go_step
      refine (under_any (HYV.out.below hC) (HXV.out.below hC)).mono ?_
      rintro e w2 ⟨rfl, h1⟩
      exact hK _ _ (hC.trans (h1.below _)) (h1.below _) rfl
    · intro u w' hC hall
      obtain ⟨u0, u1, u2, u3, u4, u5, u6, u7, u8, _⟩ := hall
      have u0 : u 0 = .pointer (some ⟨d, q, none⟩) := u0
      have u1 : u 1 = .pointer (some ⟨d, q, none⟩) := u1
      have u2 : u 2 = .pointer (some ⟨d, q + 1, none⟩) := u2
      have u3 : u 3 = .slice B lb cb := u3
      have u4 : u 4 = .pointer (some ⟨c, p, none⟩) := u4
      have u5 : u 5 = .pointer (some ⟨c, p, none⟩) := u5
      have u6 : u 6 = .pointer (some ⟨c, p + 1, none⟩) := u6
      have u7 : u 7 = .slice A la ca := u7
      have u8 : u 8 = .int .i64 (cmpN m.natAbs n.natAbs) := u8
      simp only [fillR, List.take_succ_cons, List.take_zero, Act.put, List.setIfInBounds_toArray, List.set_cons_succ, List.set_cons_zero, Nat.zero_add, Nat.reduceAdd, u0, u1, u2, u3, u4, u5, u6, u7, u8]
      clear u0 u1 u2 u3 u4 u5 u6 u7 u8
      have HC := Lib.hid hC
      clear hC
      go_wp2
      go_ret
      exact ⟨by rw [← HF.out]; rfl, HC.out⟩
  · have hf : cmpI n m = -1 := if_pos (by omega)
    rw [hf]
    rw [decide_eq_true h] at hx0
    rw [decide_eq_false k] at hy0
    clear h k hf
    go_enter Tryz.func95, Tryz.ntmps95
    go_wp2
    go_ret
    exact ⟨rfl, Below.refl _ _⟩
  · have hf : cmpI n m = 1 := by rw [cmpI, if_neg (by omega), if_pos (by omega)]
    rw [hf]
    rw [decide_eq_false h] at hx0
    rw [decide_eq_true k] at hy0
    clear h k hf
    go_enter Tryz.func95, Tryz.ntmps95
    go_wp2
    go_ret
    exact ⟨rfl, Below.refl _ _⟩
  · have HF := Lib.hid (cmpI_pos h k)
    rw [decide_eq_false h] at hx0
    rw [decide_eq_false k] at hy0
    clear h k
    go_enter Tryz.func95, Tryz.ntmps95
    go_wp2
    clear hx0 hy0
    refine wp_region_acts 9 (fun w' => Below w.heap.size w w') (fun w w' => Below w.heap.size w w') (fun i w v => match i with
        | 0 => v = .pointer (some ⟨c, p, none⟩)
        | 1 => v = .pointer (some ⟨c, p, none⟩)
        | 2 => v = .pointer (some ⟨c, p + 1, none⟩)
        | 3 => v = .slice A la ca
        | 4 => v = .pointer (some ⟨d, q, none⟩)
        | 5 => v = .pointer (some ⟨d, q, none⟩)
        | 6 => v = .pointer (some ⟨d, q + 1, none⟩)
        | 7 => v = .slice B lb cb
        | _ => v = .int .i64 (cmpN n.natAbs m.natAbs)) (by kernel_rfl) (by kernel_rfl) (by kernel_rfl) ((Below.refl _ _).drew) (fun _ _ => Below.refl _ _) ?_ ⟨?_, ?_, ?_, ?_, ?_, ?_, ?_, ?_, ?_, trivial⟩ ?_
    · intro i w1 w2 v hC hC2 hE hV
      match i with
      | 0 => exact hV
      | 1 => exact hV
      | 2 => exact hV
      | 3 => exact hV
      | 4 => exact hV
      | 5 => exact hV
      | 6 => exact hV
      | 7 => exact hV
      | _ + 8 => exact hV
    · intro a' w' hag hC hd K hK
      have e0 : a'.tmps.getD 0 undef = .pointer (some ⟨c, p, none⟩) := hag 0 rfl
      go_step
      exact hK _ _ hC (Below.refl _ _) rfl
    · intro a' w' hag hC hd K hK
      have e35 : a'.tmps.getD 35 undef = .pointer (some ⟨c, p, none⟩) := hd.1
      go_step
      exact hK _ _ hC (Below.refl _ _) rfl
    · intro a' w' hag hC hd K hK
      have e36 : a'.tmps.getD 36 undef = .pointer (some ⟨c, p, none⟩) := hd.1
      go_step
      exact hK _ _ hC (Below.refl _ _) rfl
    · intro a' w' hag hC hd K hK
      have e37 : a'.tmps.getD 37 undef = .pointer (some ⟨c, p + 1, none⟩) := hd.1
      have hcell : w'.cell? ⟨c, p + 1, none⟩ = some (.slice A la ca) := by rw [hC.cell (p := ⟨c, p + 1, none⟩) hxl]; exact HX1.out
      have HC := Lib.hid hC
      clear hC
      go_step
      exact hK _ _ HC.out (Below.refl _ _) rfl
    · intro a' w' hag hC hd K hK
      have e1 : a'.tmps.getD 1 undef = .pointer (some ⟨d, q, none⟩) := hag 1 rfl
      go_step
      exact hK _ _ hC (Below.refl _ _) rfl
    · intro a' w' hag hC hd K hK
      have e39 : a'.tmps.getD 39 undef = .pointer (some ⟨d, q, none⟩) := hd.1
      go_step
      exact hK _ _ hC (Below.refl _ _) rfl
    · intro a' w' hag hC hd K hK
      have e40 : a'.tmps.getD 40 undef = .pointer (some ⟨d, q, none⟩) := hd.1
      go_step
      exact hK _ _ hC (Below.refl _ _) rfl
    · intro a' w' hag hC hd K hK
      have e41 : a'.tmps.getD 41 undef = .pointer (some ⟨d, q + 1, none⟩) := hd.1
      have hcell : w'.cell? ⟨d, q + 1, none⟩ = some (.slice B lb cb) := by rw [hC.cell (p := ⟨d, q + 1, none⟩) hyl]; exact HY1.out
      have HC := Lib.hid hC
      clear hC
      go_step
      exact hK _ _ HC.out (Below.refl _ _) rfl
    · intro a' w' hag hC hd K hK
      have e38 : a'.tmps.getD 38 undef = .slice A la ca := hd.1
      have e42 : a'.tmps.getD 42 undef = .slice B lb cb := hd.2.1
      go_step
      refine (under_any (HXV.out.below hC) (HYV.out.below hC)).mono ?_
      rintro e w2 ⟨rfl, h1⟩
      exact hK _ _ (hC.trans (h1.below _)) (h1.below _) rfl
    · intro u w' hC hall
      obtain ⟨u0, u1, u2, u3, u4, u5, u6, u7, u8, _⟩ := hall
      have u0 : u 0 = .pointer (some ⟨c, p, none⟩) := u0
      have u1 : u 1 = .pointer (some ⟨c, p, none⟩) := u1
      have u2 : u 2 = .pointer (some ⟨c, p + 1, none⟩) := u2
      have u3 : u 3 = .slice A la ca := u3
      have u4 : u 4 = .pointer (some ⟨d, q, none⟩) := u4
      have u5 : u 5 = .pointer (some ⟨d, q, none⟩) := u5
      have u6 : u 6 = .pointer (some ⟨d, q + 1, none⟩) := u6
      have u7 : u 7 = .slice B lb cb := u7
      have u8 : u 8 = .int .i64 (cmpN n.natAbs m.natAbs) := u8
      simp only [fillR, List.take_succ_cons, List.take_zero, Act.put, List.setIfInBounds_toArray, List.set_cons_succ, List.set_cons_zero, Nat.zero_add, Nat.reduceAdd, u0, u1, u2, u3, u4, u5, u6, u7, u8]
      clear u0 u1 u2 u3 u4 u5 u6 u7 u8
      have HC := Lib.hid hC
      clear hC
      go_wp2
      go_ret
      exact ⟨by rw [← HF.out]; rfl, HC.out⟩

theorem wpList_append_copy {ops : Array Oper} {rest : List Oper} {o : Oper} {a : Act} {w : World} {Q : Exit → Act → World → Prop} (hg : o.guard = none) (s x : Operand)
    (ho : o.op = .call { callee := .builtin .append, args := #[s, x], argTypes := #[81, 81] }) (A : Option Addr) (n c : Nat) (xs : List Nat) (hs : a.eval s = .slice none 0 0) (hx : a.eval x = .slice A n c) (hw : Words w (.slice A n c) xs)
    (hK : ∀ v' w', Words w' v' xs → Below w.heap.size w w' → wpList Tryz.prog ops Q rest (a.put o.dst v') w') : wpList Tryz.prog ops Q (o :: rest) a w :=
  wpList_plain hg fun K hK' => wp_append_copy s x ho hs hx hw fun v' w' h1 h2 => hK' _ _ (hK v' w' h1 h2)

set_option maxHeartbeats 400000 in
theorem gcd_any {w : World} {b o c p d q : Nat} {n m : Int} (hz : Slot w b o 2) (hx : IntAt w c p n) (hy : IntAt w d q m) (hn : Okn n) (hm : Okn m) :
    Calls Tryz.prog 116 #[.pointer (some ⟨b, o, none⟩), .pointer none, .pointer none, .pointer (some ⟨c, p, none⟩), .pointer (some ⟨d, q, none⟩)] w fun e w' => e = .returned (.pointer (some ⟨b, o, none⟩)) ∧ IntAt w' b o (Int.gcd n m : Int) ∧ Touch w w' b o 2 := by
  obtain ⟨A, la, ca, hx0, hx1, hxv, hxl⟩ := hx.open_
  obtain ⟨B, lb, cb, hy0, hy1, hyv, hyl⟩ := hy.open_
  have HXV := Lib.hid hxv
  have HYV := Lib.hid hyv
  have HZ := Lib.hid hz
  have HN := Lib.hid hn
  have HM := Lib.hid hm
  clear hx hy hx0 hxv hy0 hyv hz hn hm
  go_enter Tryz.func116, Tryz.ntmps116
  go_wp2
  go_quiet (fail)
  clear hx1 hy1
  go_wp2
  go_loopg [11, 12] (m.natAbs) (fun k x y wr => ∃ (A B : Option Addr) (la ca lb cb : Nat) (u v : Nat), x = .slice A la ca ∧ y = .slice B lb cb ∧ Hid (Words wr (.slice A la ca) (dig u)) ∧ Hid (Words wr (.slice B lb cb) (dig v)) ∧ Hid (Nat.gcd u v = Int.gcd n m) ∧ Hid (v ≤ k) ∧ Hid ((dig u).length ≤ 4294967296) ∧ Hid ((dig v).length ≤ 4294967296) ∧ Hid (Below w.heap.size w wr))
  case atStart => exact ⟨A, B, la, ca, lb, cb, n.natAbs, m.natAbs, rfl, rfl, HXV.out.below (Below.drewN_ (Below.refl _ _) _), HYV.out.below (Below.drewN_ (Below.refl _ _) _), rfl, Nat.le_refl _, HN.out, HM.out, Below.drewN_ (Below.refl _ _) _⟩
  case round =>
    obtain ⟨A, B, la, ca, lb, cb, u, v, rfl, rfl, hu, hv, hg, hk, hul, hvl, hb⟩ := hrel
    have hl := hv.out.len.1
    have hlb := hv.out.2.1
    by_cases h0 : 0 < lb
    · have hv0 : 0 < v := by
        rcases Nat.eq_zero_or_pos v with h | h
        · rw [h, dig_zero] at hl; simp at hl; omega
        · exact h
      have HV0 := Lib.hid hv0
      have hlb2 : lb ≤ 17179869184 := by omega
      clear hl hlb hv0
      go_wp2_with fail
      refine (divide_any hu.out hv.out HV0.out (by rw [hu.out.len.1]; exact hul.out)).mono ?_
      rintro e w1 ⟨v1, v2, rfl, h1, h2, h3⟩
      obtain ⟨A2, m2, c2, rfl⟩ := h2.form
      have H2 := Lib.hid h2
      have H3 := Lib.hid h3
      clear h1 h2 h3
      go_wp2
      go_roundg (u % v)
      case measure => exact Nat.lt_of_lt_of_le (Nat.mod_lt _ HV0.out) hk.out
      case rel =>
        refine ⟨B, A2, lb, cb, m2, c2, v, u % v, rfl, rfl, hv.out.below H3.out, H2.out, ?_, Nat.le_refl _, hvl.out, ?_, hb.out.trans (H3.out.mono hb.out.size)⟩
        · rw [Hid, ← hg.out, Nat.gcd_comm v, ← Nat.gcd_rec, Nat.gcd_comm]
        · exact Nat.le_trans (dig_len_mono _ _ (Nat.le_of_lt (Nat.mod_lt _ HV0.out))) hvl.out
    · obtain rfl : lb = 0 := by omega
      have hv0 := (dig_nil_iff v).1 (List.eq_nil_of_length_eq_zero hl.symm)
      subst hv0
      have hgu := hg.out
      rw [Nat.gcd_zero_right] at hgu
      have HG := Lib.hid hgu
      clear hl hlb hgu
      go_wp2_with (at_builtin; refine wpList_append_copy rfl (.const (.slice none 0 0)) (.tmp 35) rfl _ _ _ _ rfl rfl hu.out (fun v' w' h1 h2 => ?_))
      obtain ⟨A2, m2, c2, rfl⟩ := h1.form
      have H1 := Lib.hid h1
      have H2 := Lib.hid h2
      clear h1 h2
      go_wp2_with fail
      have hz2 : Slot _ b o 2 := (HZ.out.below hb.out HZ.out.lt).on H2.out
      have HB2 := Lib.hid (hb.out.trans (H2.out.mono hb.out.size))
      refine (is_any false hz2 H1.out).mono ?_
      rintro e w3 ⟨rfl, h1, h2⟩
      rw [val_dig, HG.out] at h1
      have H3 := Lib.hid h1
      have H4 := Lib.hid h2
      clear h1 h2 hz2
      go_wp2
      go_ret
      exact ⟨rfl, H3.out, (Touch.of_below HB2.out b o 2).trans H4.out⟩
end Go.Proofs.YtaenedjanckaiaaGreat
