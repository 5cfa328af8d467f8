/- The reference of layer 2: Times, Plus, Cmp. -/
import Derived.Test.YtaenedjanckaiaaGreatRefJ
namespace Go.Proofs.YtaenedjanckaiaaGreat
set_option linter.unnecessarySimpa false
set_option linter.unusedVariables false
set_option linter.unusedSimpArgs false
open Go.RowKit

/-- A whole number is told. -/
def WPost (k : Int) (w0 : World) (e : Ending) (w' : World) : Prop := ∃ a u, e = .returned (.agg #[.bool a, .string u]) ∧ Hid (a = decide (k < 0)) ∧ Hid (u = mag k.natAbs) ∧ Below w0.heap.size w0 w'
theorem len_mul {N M : Nat} (h1 : (dig N).length ≤ 25001) (h2 : (dig M).length ≤ 25001) : (dig (N * M)).length ≤ 50002 := by
  refine Nat.le_trans (dig_len_le _ ((dig N).length + (dig M).length) ?_) (by omega)
  rw [Nat.pow_add]
  exact Nat.mul_lt_mul'' (dig_lt N) (dig_lt M)
theorem len_addk {N M k : Nat} (h1 : (dig N).length ≤ k) (h2 : (dig M).length ≤ k) : (dig (N + M)).length ≤ k + 1 := by
  refine Nat.le_trans (dig_len_le _ (k + 1) ?_) (Nat.le_refl _)
  have a := Nat.lt_of_lt_of_le (dig_lt N) (Nat.pow_le_pow_right (by decide) h1)
  have b := Nat.lt_of_lt_of_le (dig_lt M) (Nat.pow_le_pow_right (by decide) h2)
  rw [Nat.pow_succ]
  omega
theorem len_add {N M : Nat} (h1 : (dig N).length ≤ 25001) (h2 : (dig M).length ≤ 25001) : (dig (N + M)).length ≤ 25002 := len_addk h1 h2
theorem sg_times {n m : Int} {p q : Bool} (hp : p = decide (n < 0)) (hq : q = decide (m < 0)) : sg (!p == q) (n.natAbs * m.natAbs) = n * m := by
  rw [← sg_mul n m, hp, hq]
  congr 1

set_option maxHeartbeats 6400000 in
set_option maxRecDepth 100000 in
theorem rtimes_any {w0 : World} (p q : Bool) (s t : ByteArray) (n m : Int) (hp : p = decide (n < 0)) (hq : q = decide (m < 0)) (hs : s = mag n.natAbs) (ht : t = mag m.natAbs) (h1 : s.size ≤ 100000) (h2 : t.size ≤ 100000) :
    Calls Tryz.prog 60 #[.agg #[.bool p, .string s], .agg #[.bool q, .string t]] w0 (WPost (n * m) w0) := by
  have hf1 := (((Frames.nil w0).push w0.heap.size #[.bool p, .string s] 23 rfl).push (w0.heap.size + 1) #[.bool q, .string t] 23 (by simp)).push (w0.heap.size + 1 + 1) #[.bool false, .string ⟨#[]⟩] 23 (by simp)
  have HB := Lib.hid (below_alloc_ (below_alloc_ (below_new w0 (.cells #[.bool p, .string s] 23)) (.cells #[.bool q, .string t] 23)) (.cells #[.bool false, .string ⟨#[]⟩] 23))
  have HF := Lib.hid hf1
  obtain ⟨N, hN⟩ : ∃ N, N = n.natAbs := ⟨_, rfl⟩
  obtain ⟨M, hM⟩ : ∃ M, M = m.natAbs := ⟨_, rfl⟩
  rw [← hN] at hs
  rw [← hM] at ht
  have HS := Lib.hid hs
  have HT := Lib.hid ht
  have HP := Lib.hid hp
  have HQ := Lib.hid hq
  have HN := Lib.hid hN
  have HM := Lib.hid hM
  have KN : Hid ((dig N).length ≤ 25001) := len_mag hs h1
  have KM : Hid ((dig M).length ≤ 25001) := len_mag ht h2
  have H1 : Hid (s.size ≤ 4294967296) := Nat.le_trans h1 (by decide)
  have H2 : Hid (t.size ≤ 4294967296) := Nat.le_trans h2 (by decide)
  obtain ⟨ra, hra⟩ : ∃ a, a = decide (n * m < 0) := ⟨_, rfl⟩
  obtain ⟨ru, hru⟩ : ∃ u, u = mag (n * m).natAbs := ⟨_, rfl⟩
  have HRES : Hid ((Value.agg #[.bool ra, .string ru]) = wholeV (n * m)) := by rw [hra, hru]; rfl
  have HRA := Lib.hid hra
  have HRU := Lib.hid hru
  clear hra hru
  clear hs ht hp hq h1 h2 hf1 hN hM
  have HV : Hid (sg (!p == q) (N * M) = n * m) := by rw [Hid, HN.out, HM.out]; exact sg_times HP.out HQ.out
  go_enter Tryz.func60, Tryz.ntmps60
  go_wp2
  generalize ((w0.alloc (.cells #[.bool p, .string s] 23)).alloc (.cells #[.bool q, .string t] 23)).alloc (.cells #[.bool false, .string ⟨#[]⟩] 23) = w1 at HB HF ⊢
  refine wp_region_acts 13 (fun w' => Below w0.heap.size w0 w' ∧ Frames w' [(w0.heap.size + 1 + 1, #[.bool false, .string ⟨#[]⟩], 23), (w0.heap.size + 1, #[.bool q, .string t], 23), (w0.heap.size, #[.bool p, .string s], 23)]) (fun w w' => Below w.heap.size w w') (fun i w v => match i with
      | 0 => v = .pointer (some ⟨w0.heap.size, 0, none⟩)
      | 1 => v = .bool p
      | 2 => v = .pointer (some ⟨w0.heap.size + 1, 0, none⟩)
      | 3 => v = .bool q
      | 4 => v = .bool (!p == q)
      | 5 => v = .pointer (some ⟨w0.heap.size, 1, none⟩)
      | 6 => v = .string s
      | 7 => ∃ A c, v = .slice A (dig N).length c ∧ Words w (.slice A (dig N).length c) (dig N)
      | 8 => v = .pointer (some ⟨w0.heap.size + 1, 1, none⟩)
      | 9 => v = .string t
      | 10 => ∃ A c, v = .slice A (dig M).length c ∧ Words w (.slice A (dig M).length c) (dig M)
      | 11 => ∃ A l c, v = .slice A l c ∧ Words w (.slice A l c) (dig (N * M))
      | _ => v = .agg #[.bool ra, .string ru]) (by kernel_rfl) (by kernel_rfl) (by kernel_rfl) ⟨HB.out.drew, HF.out.on (Below.drew (Below.refl _ _))⟩ (fun _ _ => (Below.refl _ _)) ?_ ⟨?_, ?_, ?_, ?_, ?_, ?_, ?_, ?_, ?_, ?_, ?_, ?_, ?_, trivial⟩ ?_
  · intro i w1 w2 v hC hC2 hE hV
    match i with
    | 0 => exact hV
    | 1 => exact hV
    | 2 => exact hV
    | 3 => exact hV
    | 4 => exact hV
    | 5 => exact hV
    | 6 => exact hV
    | 7 => obtain ⟨A, c, e, h⟩ := hV; exact ⟨A, c, e, h.below hE⟩
    | 8 => exact hV
    | 9 => exact hV
    | 10 => obtain ⟨A, c, e, h⟩ := hV; exact ⟨A, c, e, h.below hE⟩
    | 11 => obtain ⟨A, l, c, e, h⟩ := hV; exact ⟨A, l, c, e, h.below hE⟩
    | _ + 12 => exact hV
  · intro a' w' hag hC hd K hK
    have e2 : a'.tmps.getD 2 undef = .pointer (some ⟨w0.heap.size, 0, none⟩) := hag 2 rfl
    go_step
    exact hK _ _ hC ((Below.refl _ _)) rfl
  · intro a' w' hag hC hd K hK
    have e5 : a'.tmps.getD 5 undef = .pointer (some ⟨w0.heap.size, 0, none⟩) := hd.1
    have hc0 := (hC.2.get 2 rfl).cell 0 (.bool p) rfl
    have HK := Lib.hid (hK (.bool p) _ hC (Below.refl _ _) rfl)
    clear hK hC
    go_step
    exact HK.out
  · intro a' w' hag hC hd K hK
    have e3 : a'.tmps.getD 3 undef = .pointer (some ⟨w0.heap.size + 1, 0, none⟩) := hag 3 rfl
    go_step
    exact hK _ _ hC ((Below.refl _ _)) rfl
  · intro a' w' hag hC hd K hK
    have e7 : a'.tmps.getD 7 undef = .pointer (some ⟨w0.heap.size + 1, 0, none⟩) := hd.1
    have hc0 := (hC.2.get 1 rfl).cell 0 (.bool q) rfl
    have HK := Lib.hid (hK (.bool q) _ hC (Below.refl _ _) rfl)
    clear hK hC
    go_step
    exact HK.out
  · intro a' w' hag hC hd K hK
    have e6 : a'.tmps.getD 6 undef = .bool p := hd.1
    have e8 : a'.tmps.getD 8 undef = .bool q := hd.2.1
    go_step
    exact hK _ _ hC ((Below.refl _ _)) rfl
  · intro a' w' hag hC hd K hK
    have e2 : a'.tmps.getD 2 undef = .pointer (some ⟨w0.heap.size, 0, none⟩) := hag 2 rfl
    go_step
    exact hK _ _ hC ((Below.refl _ _)) rfl
  · intro a' w' hag hC hd K hK
    have e10 : a'.tmps.getD 10 undef = .pointer (some ⟨w0.heap.size, 1, none⟩) := hd.1
    have hc0 := (hC.2.get 2 rfl).cell 1 (.string s) rfl
    have HK := Lib.hid (hK (.string s) _ hC (Below.refl _ _) rfl)
    clear hK hC
    go_step
    exact HK.out
  · intro a' w' hag hC hd K hK
    have e11 : a'.tmps.getD 11 undef = .string s := hd.1
    go_step
    refine (words_any s N HS.out H1.out).mono ?_
    rintro e w2 ⟨A, c, rfl, h1, h2⟩
    exact hK _ _ ⟨hC.1.trans (h2.mono hC.1.size), hC.2.on h2⟩ h2 ⟨_, _, rfl, h1⟩
  · intro a' w' hag hC hd K hK
    have e3 : a'.tmps.getD 3 undef = .pointer (some ⟨w0.heap.size + 1, 0, none⟩) := hag 3 rfl
    go_step
    exact hK _ _ hC ((Below.refl _ _)) rfl
  · intro a' w' hag hC hd K hK
    have e13 : a'.tmps.getD 13 undef = .pointer (some ⟨w0.heap.size + 1, 1, none⟩) := hd.1
    have hc0 := (hC.2.get 1 rfl).cell 1 (.string t) rfl
    have HK := Lib.hid (hK (.string t) _ hC (Below.refl _ _) rfl)
    clear hK hC
    go_step
    exact HK.out
  · intro a' w' hag hC hd K hK
    have e14 : a'.tmps.getD 14 undef = .string t := hd.1
    go_step
    refine (words_any t M HT.out H2.out).mono ?_
    rintro e w2 ⟨A, c, rfl, h1, h2⟩
    exact hK _ _ ⟨hC.1.trans (h2.mono hC.1.size), hC.2.on h2⟩ h2 ⟨_, _, rfl, h1⟩
  · intro a' w' hag hC hd K hK
    obtain ⟨A12, c12, e12, h12⟩ := hd.1
    have e12 : a'.tmps.getD 12 undef = .slice A12 (dig N).length c12 := e12
    obtain ⟨A15, c15, e15, h15⟩ := hd.2.1
    have e15 : a'.tmps.getD 15 undef = .slice A15 (dig M).length c15 := e15
    go_step
    refine (rproduct_any h12 h15 (Nat.le_trans KN.out (by decide)) (Nat.le_trans KM.out (by decide))).mono ?_
    rintro e w2 ⟨v, rfl, h1, h2⟩
    rw [val_dig, val_dig] at h1
    obtain ⟨A, l, c, rfl⟩ := h1.form
    exact hK _ _ ⟨hC.1.trans (h2.mono hC.1.size), hC.2.on h2⟩ h2 ⟨_, _, _, rfl, h1⟩
  · intro a' w' hag hC hd K hK
    have e9 : a'.tmps.getD 9 undef = .bool (!p == q) := hd.1
    obtain ⟨A16, l16, c16, e16, h16⟩ := hd.2.1
    have e16 : a'.tmps.getD 16 undef = .slice A16 l16 c16 := e16
    go_step
    refine (made_any (!p == q) h16 (by rw [h16.len.1]; exact Nat.le_trans (len_mul KN.out KM.out) (by decide))).mono ?_
    rintro e w2 ⟨rfl, hb⟩
    rw [val_dig, HV.out, ← HRES.out]
    exact hK _ _ ⟨hC.1.trans (hb.mono hC.1.size), hC.2.on hb⟩ hb rfl
  · intro u w' hC hall
    obtain ⟨u0, u1, u2, u3, u4, u5, u6, u7, u8, u9, u10, u11, u12, _⟩ := hall
    have u0 : u 0 = .pointer (some ⟨w0.heap.size, 0, none⟩) := u0
    have u1 : u 1 = .bool p := u1
    have u2 : u 2 = .pointer (some ⟨w0.heap.size + 1, 0, none⟩) := u2
    have u3 : u 3 = .bool q := u3
    have u4 : u 4 = .bool (!p == q) := u4
    have u5 : u 5 = .pointer (some ⟨w0.heap.size, 1, none⟩) := u5
    have u6 : u 6 = .string s := u6
    have u8 : u 8 = .pointer (some ⟨w0.heap.size + 1, 1, none⟩) := u8
    have u9 : u 9 = .string t := u9
    have u12 : u 12 = .agg #[.bool ra, .string ru] := u12
    simp only [fillR, List.take_succ_cons, List.take_zero, Act.put, List.setIfInBounds_toArray, List.set_cons_succ, List.set_cons_zero, Nat.zero_add, Nat.reduceAdd, u0, u1, u2, u3, u4, u5, u6, u8, u9, u12]
    clear u0 u1 u2 u3 u4 u5 u6 u8 u9 u12
    have HB9 := Lib.hid hC.1
    have HX9 := Lib.hid (hC.2.get 0 rfl)
    clear hC
    have hp0 := HX9.out.cell 0 _ rfl
    have hp1 := HX9.out.cell 1 _ rfl
    have hf := HX9.out.frozen
    go_wp2
    have hk := (HX9.out.set 0 (.bool ra)).set 1 (.string ru)
    have k0 := hk.cell 0 _ rfl
    have k1 := hk.cell 1 _ rfl
    exact bodyPost_ret (v := .agg #[.bool ra, .string ru]) (by simp [results, Tryz.results60, go_sem, k0, k1]) rfl ⟨_, _, rfl, HRA, HRU, below_put2 HB9.out (by omega) _ _⟩
theorem plus_same {n m : Int} {p : Bool} (hp : p = decide (n < 0)) (hq : p = decide (m < 0)) : sg p (n.natAbs + m.natAbs) = n + m := by
  cases p
  · have h1 : ¬ n < 0 := of_decide_eq_false hp.symm
    have h2 : ¬ m < 0 := of_decide_eq_false hq.symm
    simp [sg]; omega
  · have h1 : n < 0 := of_decide_eq_true hp.symm
    have h2 : m < 0 := of_decide_eq_true hq.symm
    simp [sg]; omega
theorem plus_diff {n m : Int} {p q : Bool} (hp : p = decide (n < 0)) (hq : q = decide (m < 0)) (hpq : p ≠ q) : (m.natAbs ≤ n.natAbs → sg p (n.natAbs - m.natAbs) = n + m) ∧ (n.natAbs < m.natAbs → sg q (m.natAbs - n.natAbs) = n + m) := by
  cases p <;> cases q
  · exact absurd rfl hpq
  · have h1 : ¬ n < 0 := of_decide_eq_false hp.symm
    have h2 : m < 0 := of_decide_eq_true hq.symm
    constructor <;> intro h <;> simp [sg] <;> omega
  · have h1 : n < 0 := of_decide_eq_true hp.symm
    have h2 : ¬ m < 0 := of_decide_eq_false hq.symm
    constructor <;> intro h <;> simp [sg] <;> omega
  · exact absurd rfl hpq

set_option maxHeartbeats 6400000 in
set_option maxRecDepth 100000 in
theorem rplus_any {w0 : World} (p q : Bool) (s t : ByteArray) (n m : Int) (hp : p = decide (n < 0)) (hq : q = decide (m < 0)) (hs : s = mag n.natAbs) (ht : t = mag m.natAbs) (h1 : s.size ≤ 100000) (h2 : t.size ≤ 100000) :
    Calls Tryz.prog 62 #[.agg #[.bool p, .string s], .agg #[.bool q, .string t]] w0 (WPost (n + m) w0) := by
  have hf1 := (((Frames.nil w0).push w0.heap.size #[.bool p, .string s] 23 rfl).push (w0.heap.size + 1) #[.bool q, .string t] 23 (by simp)).push (w0.heap.size + 1 + 1) #[.bool false, .string ⟨#[]⟩] 23 (by simp)
  have HB := Lib.hid (below_alloc_ (below_alloc_ (below_new w0 (.cells #[.bool p, .string s] 23)) (.cells #[.bool q, .string t] 23)) (.cells #[.bool false, .string ⟨#[]⟩] 23))
  have HF := Lib.hid hf1
  obtain ⟨N, hN⟩ : ∃ N, N = n.natAbs := ⟨_, rfl⟩
  obtain ⟨M, hM⟩ : ∃ M, M = m.natAbs := ⟨_, rfl⟩
  rw [← hN] at hs
  rw [← hM] at ht
  have HS := Lib.hid hs
  have HT := Lib.hid ht
  have HP := Lib.hid hp
  have HQ := Lib.hid hq
  have HN := Lib.hid hN
  have HM := Lib.hid hM
  have KN : Hid ((dig N).length ≤ 25001) := len_mag hs h1
  have KM : Hid ((dig M).length ≤ 25001) := len_mag ht h2
  have H1 : Hid (s.size ≤ 4294967296) := Nat.le_trans h1 (by decide)
  have H2 : Hid (t.size ≤ 4294967296) := Nat.le_trans h2 (by decide)
  obtain ⟨ra, hra⟩ : ∃ a, a = decide (n + m < 0) := ⟨_, rfl⟩
  obtain ⟨ru, hru⟩ : ∃ u, u = mag (n + m).natAbs := ⟨_, rfl⟩
  have HRES : Hid ((Value.agg #[.bool ra, .string ru]) = wholeV (n + m)) := by rw [hra, hru]; rfl
  have HRA := Lib.hid hra
  have HRU := Lib.hid hru
  clear hra hru
  clear hs ht hp hq h1 h2 hf1 hN hM
  go_enter Tryz.func62, Tryz.ntmps62
  go_wp2
  generalize ((w0.alloc (.cells #[.bool p, .string s] 23)).alloc (.cells #[.bool q, .string t] 23)).alloc (.cells #[.bool false, .string ⟨#[]⟩] 23) = w1 at HB HF ⊢
  refine wp_region_acts 6 (fun w' => Below w0.heap.size w0 w' ∧ Frames w' [(w0.heap.size + 1 + 1, #[.bool false, .string ⟨#[]⟩], 23), (w0.heap.size + 1, #[.bool q, .string t], 23), (w0.heap.size, #[.bool p, .string s], 23)]) (fun w w' => Below w.heap.size w w') (fun i w v => match i with
      | 0 => v = .pointer (some ⟨w0.heap.size, 1, none⟩)
      | 1 => v = .string s
      | 2 => ∃ A c, v = .slice A (dig N).length c ∧ Words w (.slice A (dig N).length c) (dig N)
      | 3 => v = .pointer (some ⟨w0.heap.size + 1, 1, none⟩)
      | 4 => v = .string t
      | _ => ∃ A c, v = .slice A (dig M).length c ∧ Words w (.slice A (dig M).length c) (dig M)) (by kernel_rfl) (by kernel_rfl) (by kernel_rfl) ⟨HB.out.drew, HF.out.on (Below.drew (Below.refl _ _))⟩ (fun _ _ => (Below.refl _ _)) ?_ ⟨?_, ?_, ?_, ?_, ?_, ?_, trivial⟩ ?_
  · intro i w1 w2 v hC hC2 hE hV
    match i with
    | 0 => exact hV
    | 1 => exact hV
    | 2 => obtain ⟨A, c, e, h⟩ := hV; exact ⟨A, c, e, h.below hE⟩
    | 3 => exact hV
    | 4 => exact hV
    | _ + 5 => obtain ⟨A, c, e, h⟩ := hV; exact ⟨A, c, e, h.below hE⟩
  · intro a' w' hag hC hd K hK
    have e2 : a'.tmps.getD 2 undef = .pointer (some ⟨w0.heap.size, 0, none⟩) := hag 2 rfl
    go_step
    exact hK _ _ hC ((Below.refl _ _)) rfl
  · intro a' w' hag hC hd K hK
    have e7 : a'.tmps.getD 7 undef = .pointer (some ⟨w0.heap.size, 1, none⟩) := hd.1
    have hc0 := (hC.2.get 2 rfl).cell 1 (.string s) rfl
    have HK := Lib.hid (hK (.string s) _ hC (Below.refl _ _) rfl)
    clear hK hC
    go_step
    exact HK.out
  · intro a' w' hag hC hd K hK
    have e8 : a'.tmps.getD 8 undef = .string s := hd.1
    go_step
    refine (words_any s N HS.out H1.out).mono ?_
    rintro e w2 ⟨A, c, rfl, h1, h2⟩
    exact hK _ _ ⟨hC.1.trans (h2.mono hC.1.size), hC.2.on h2⟩ h2 ⟨_, _, rfl, h1⟩
  · intro a' w' hag hC hd K hK
    have e3 : a'.tmps.getD 3 undef = .pointer (some ⟨w0.heap.size + 1, 0, none⟩) := hag 3 rfl
    go_step
    exact hK _ _ hC ((Below.refl _ _)) rfl
  · intro a' w' hag hC hd K hK
    have e10 : a'.tmps.getD 10 undef = .pointer (some ⟨w0.heap.size + 1, 1, none⟩) := hd.1
    have hc0 := (hC.2.get 1 rfl).cell 1 (.string t) rfl
    have HK := Lib.hid (hK (.string t) _ hC (Below.refl _ _) rfl)
    clear hK hC
    go_step
    exact HK.out
  · intro a' w' hag hC hd K hK
    have e11 : a'.tmps.getD 11 undef = .string t := hd.1
    go_step
    refine (words_any t M HT.out H2.out).mono ?_
    rintro e w2 ⟨A, c, rfl, h1, h2⟩
    exact hK _ _ ⟨hC.1.trans (h2.mono hC.1.size), hC.2.on h2⟩ h2 ⟨_, _, rfl, h1⟩
  · intro u w' hC hall
    obtain ⟨u0, u1, u2, u3, u4, u5, _⟩ := hall
    have u0 : u 0 = .pointer (some ⟨w0.heap.size, 1, none⟩) := u0
    have u1 : u 1 = .string s := u1
    obtain ⟨A9, c9, eu2, h9⟩ := u2
    have u2 : u 2 = .slice A9 (dig N).length c9 := eu2
    have u3 : u 3 = .pointer (some ⟨w0.heap.size + 1, 1, none⟩) := u3
    have u4 : u 4 = .string t := u4
    obtain ⟨A12, c12, eu5, h12⟩ := u5
    have u5 : u 5 = .slice A12 (dig M).length c12 := eu5
    simp only [fillR, List.take_succ_cons, List.take_zero, Act.put, List.setIfInBounds_toArray, List.set_cons_succ, List.set_cons_zero, Nat.zero_add, Nat.reduceAdd, u0, u1, u2, u3, u4, u5]
    clear u0 u1 u2 u3 u4 u5
    have HC := Lib.hid hC
    have H9 := Lib.hid h9
    have H12 := Lib.hid h12
    obtain ⟨lN, hlN⟩ : ∃ l, l = (dig N).length := ⟨_, rfl⟩
    obtain ⟨lM, hlM⟩ : ∃ l, l = (dig M).length := ⟨_, rfl⟩
    rw [← hlN] at H9
    rw [← hlM] at H12
    rw [← hlN, ← hlM]
    have hlNb : lN ≤ 25001 := by rw [hlN]; exact KN.out
    have hlMb : lM ≤ 25001 := by rw [hlM]; exact KM.out
    clear hlN hlM
    clear hC h9 h12
    obtain ⟨w2, hw2⟩ : ∃ w2, w2 = w' := ⟨_, rfl⟩
    rw [← hw2] at HC H9 H12 ⊢
    clear hw2
    have hc0 := (HC.out.2.get 2 rfl).cell 0 (.bool p) rfl
    have hc1 := (HC.out.2.get 1 rfl).cell 0 (.bool q) rfl
    by_cases hpq : p = q
    · subst hpq
      have HV : Hid (sg p (N + M) = n + m) := by rw [Hid, HN.out, HM.out]; exact plus_same HP.out HQ.out
      go_wp2
      clear hc0 hc1
      refine wp_region_acts 6 (fun w' => Below w0.heap.size w0 w' ∧ Frames w' [(w0.heap.size + 1 + 1, #[.bool false, .string ⟨#[]⟩], 23), (w0.heap.size + 1, #[.bool p, .string t], 23), (w0.heap.size, #[.bool p, .string s], 23)] ∧ Words w' (.slice A9 lN c9) (dig N) ∧ Words w' (.slice A12 lM c12) (dig M)) (fun w w' => Below w.heap.size w w') (fun i w v => match i with
          | 0 => v = .pointer (some ⟨w0.heap.size, 0, none⟩)
          | 1 => v = .bool p
          | 2 => v = .slice A9 lN c9
          | 3 => v = .slice A12 lM c12
          | 4 => ∃ A l c, v = .slice A l c ∧ Words w (.slice A l c) (dig (N + M))
          | _ => v = .agg #[.bool ra, .string ru]) (by kernel_rfl) (by kernel_rfl) (by kernel_rfl) ⟨HC.out.1.drew, HC.out.2.on (Below.drew (Below.refl _ _)), H9.out.below (Below.drew (Below.refl _ _)), H12.out.below (Below.drew (Below.refl _ _))⟩ (fun _ _ => (Below.refl _ _)) ?_ ⟨?_, ?_, ?_, ?_, ?_, ?_, trivial⟩ ?_
      · intro i w1 w2 v hC hC2 hE hV
        match i with
        | 0 => exact hV
        | 1 => exact hV
        | 2 => exact hV
        | 3 => exact hV
        | 4 => obtain ⟨A, l, c, e, h⟩ := hV; exact ⟨A, l, c, e, h.below hE⟩
        | _ + 5 => exact hV
      · intro a' w' hag hC hd K hK
        have e2 : a'.tmps.getD 2 undef = .pointer (some ⟨w0.heap.size, 0, none⟩) := hag 2 rfl
        go_step
        exact hK _ _ hC ((Below.refl _ _)) rfl
      · intro a' w' hag hC hd K hK
        have e18 : a'.tmps.getD 18 undef = .pointer (some ⟨w0.heap.size, 0, none⟩) := hd.1
        have hc0 := (hC.2.1.get 2 rfl).cell 0 (.bool p) rfl
        have HK := Lib.hid (hK (.bool p) _ hC (Below.refl _ _) rfl)
        clear hK hC
        go_step
        exact HK.out
      · intro a' w' hag hC hd K hK
        have e5 : a'.tmps.getD 5 undef = .slice A9 lN c9 := hag 5 rfl
        go_step
        exact hK _ _ hC ((Below.refl _ _)) rfl
      · intro a' w' hag hC hd K hK
        have e6 : a'.tmps.getD 6 undef = .slice A12 lM c12 := hag 6 rfl
        go_step
        exact hK _ _ hC ((Below.refl _ _)) rfl
      · intro a' w' hag hC hd K hK
        have e20 : a'.tmps.getD 20 undef = .slice A9 lN c9 := hd.1
        have e21 : a'.tmps.getD 21 undef = .slice A12 lM c12 := hd.2.1
        go_step
        refine (rmore_any hC.2.2.1 hC.2.2.2 (Nat.le_trans hlNb (by decide)) (Nat.le_trans hlMb (by decide))).mono ?_
        rintro e w2 ⟨v, rfl, h1, h2⟩
        rw [val_dig, val_dig] at h1
        obtain ⟨A, l, c, rfl⟩ := h1.form
        exact hK _ _ ⟨hC.1.trans (h2.mono hC.1.size), hC.2.1.on h2, hC.2.2.1.below h2, hC.2.2.2.below h2⟩ h2 ⟨_, _, _, rfl, h1⟩
      · intro a' w' hag hC hd K hK
        have e19 : a'.tmps.getD 19 undef = .bool p := hd.1
        obtain ⟨A22, l22, c22, e22, h22⟩ := hd.2.1
        have e22 : a'.tmps.getD 22 undef = .slice A22 l22 c22 := e22
        go_step
        refine (made_any p h22 (by rw [h22.len.1]; exact Nat.le_trans (len_add KN.out KM.out) (by decide))).mono ?_
        rintro e w2 ⟨rfl, hb⟩
        rw [val_dig, HV.out, ← HRES.out]
        exact hK _ _ ⟨hC.1.trans (hb.mono hC.1.size), hC.2.1.on hb, hC.2.2.1.below hb, hC.2.2.2.below hb⟩ hb rfl
      · intro u w' hC hall
        obtain ⟨u0, u1, u2, u3, u4, u5, _⟩ := hall
        have u0 : u 0 = .pointer (some ⟨w0.heap.size, 0, none⟩) := u0
        have u1 : u 1 = .bool p := u1
        have u2 : u 2 = .slice A9 lN c9 := u2
        have u3 : u 3 = .slice A12 lM c12 := u3
        have u5 : u 5 = .agg #[.bool ra, .string ru] := u5
        simp only [fillR, List.take_succ_cons, List.take_zero, Act.put, List.setIfInBounds_toArray, List.set_cons_succ, List.set_cons_zero, Nat.zero_add, Nat.reduceAdd, u0, u1, u2, u3, u5]
        clear u0 u1 u2 u3 u5
        have HB9 := Lib.hid hC.1
        have HX9 := Lib.hid (hC.2.1.get 0 rfl)
        clear hC
        have hp0 := HX9.out.cell 0 _ rfl
        have hp1 := HX9.out.cell 1 _ rfl
        have hf := HX9.out.frozen
        go_wp2
        have hk := (HX9.out.set 0 (.bool ra)).set 1 (.string ru)
        have k0 := hk.cell 0 _ rfl
        have k1 := hk.cell 1 _ rfl
        exact bodyPost_ret (v := .agg #[.bool ra, .string ru]) (by simp [results, Tryz.results62, go_sem, k0, k1]) rfl ⟨_, _, rfl, HRA, HRU, below_put2 HB9.out (by omega) _ _⟩
    · have HV := Lib.hid (plus_diff HP.out HQ.out hpq)
      rw [← HN.out, ← HM.out] at HV
      have hbq : (p == q) = false := by rw [beq_eq_false_iff_ne]; exact hpq
      obtain ⟨r, hr⟩ : ∃ r, r = cmpN N M := ⟨_, rfl⟩
      have HR := Lib.hid hr
      clear hr
      go_wp2_with fail
      refine (runder_any H9.out H12.out).mono ?_
      rintro e w2' ⟨rfl, kk, rfl⟩
      rw [← HR.out]
      have HC' := Lib.hid (show Below w0.heap.size w0 (w2.drewN kk) ∧ Frames (w2.drewN kk) [(w0.heap.size + 1 + 1, #[.bool false, .string ⟨#[]⟩], 23), (w0.heap.size + 1, #[.bool q, .string t], 23), (w0.heap.size, #[.bool p, .string s], 23)] from ⟨HC.out.1.trans (Below.drewN_ (Below.refl _ _) kk), HC.out.2.on (Below.drewN_ (Below.refl _ _) kk)⟩)
      have H9' := Lib.hid (H9.out.below (Below.drewN_ (Below.refl _ _) kk))
      have H12' := Lib.hid (H12.out.below (Below.drewN_ (Below.refl _ _) kk))
      generalize w2.drewN kk = w3 at HC' H9' H12' ⊢
      clear HC H9 H12 hc0 hc1 w2
      obtain ⟨w2, hw2⟩ : ∃ w2, w2 = w3 := ⟨_, rfl⟩
      rw [← hw2] at HC' H9' H12' ⊢
      have HC := HC'
      have H9 := H9'
      have H12 := H12'
      clear HC' H9' H12' hw2
      by_cases hle : M ≤ N
      · have hr0 : (0 : Int) ≤ r := by rw [HR.out]; exact cmpN_ge hle
        have HL := Lib.hid hle
        have HLL : Hid (lM ≤ lN) := by rw [Hid, H9.out.len.1, H12.out.len.1]; exact dig_len_mono _ _ hle
        go_wp2
        refine wp_region_acts 6 (fun w' => Below w0.heap.size w0 w' ∧ Frames w' [(w0.heap.size + 1 + 1, #[.bool false, .string ⟨#[]⟩], 23), (w0.heap.size + 1, #[.bool q, .string t], 23), (w0.heap.size, #[.bool p, .string s], 23)] ∧ Words w' (.slice A9 lN c9) (dig N) ∧ Words w' (.slice A12 lM c12) (dig M)) (fun w w' => Below w.heap.size w w') (fun i w v => match i with
            | 0 => v = .pointer (some ⟨w0.heap.size, 0, none⟩)
            | 1 => v = .bool p
            | 2 => v = .slice A9 lN c9
            | 3 => v = .slice A12 lM c12
            | 4 => ∃ A l c, v = .slice A l c ∧ Words w (.slice A l c) (dig (N - M))
            | _ => v = .agg #[.bool ra, .string ru]) (by kernel_rfl) (by kernel_rfl) (by kernel_rfl) ⟨HC.out.1.drew, HC.out.2.on (Below.drew (Below.refl _ _)), H9.out.below (Below.drew (Below.refl _ _)), H12.out.below (Below.drew (Below.refl _ _))⟩ (fun _ _ => (Below.refl _ _)) ?_ ⟨?_, ?_, ?_, ?_, ?_, ?_, trivial⟩ ?_
        · intro i w1 w2 v hC hC2 hE hV
          match i with
          | 0 => exact hV
          | 1 => exact hV
          | 2 => exact hV
          | 3 => exact hV
          | 4 => obtain ⟨A, l, c, e, h⟩ := hV; exact ⟨A, l, c, e, h.below hE⟩
          | _ + 5 => exact hV
        · intro a' w' hag hC hd K hK
          have e2 : a'.tmps.getD 2 undef = .pointer (some ⟨w0.heap.size, 0, none⟩) := hag 2 rfl
          go_step
          exact hK _ _ hC ((Below.refl _ _)) rfl
        · intro a' w' hag hC hd K hK
          have e28 : a'.tmps.getD 28 undef = .pointer (some ⟨w0.heap.size, 0, none⟩) := hd.1
          have hc0 := (hC.2.1.get 2 rfl).cell 0 (.bool p) rfl
          have HK := Lib.hid (hK (.bool p) _ hC (Below.refl _ _) rfl)
          clear hK hC
          go_step
          exact HK.out
        · intro a' w' hag hC hd K hK
          have e5 : a'.tmps.getD 5 undef = .slice A9 lN c9 := hag 5 rfl
          go_step
          exact hK _ _ hC ((Below.refl _ _)) rfl
        · intro a' w' hag hC hd K hK
          have e6 : a'.tmps.getD 6 undef = .slice A12 lM c12 := hag 6 rfl
          go_step
          exact hK _ _ hC ((Below.refl _ _)) rfl
        · intro a' w' hag hC hd K hK
          have e30 : a'.tmps.getD 30 undef = .slice A9 lN c9 := hd.1
          have e31 : a'.tmps.getD 31 undef = .slice A12 lM c12 := hd.2.1
          go_step
          refine (rless_any hC.2.2.1 hC.2.2.2 (Nat.le_trans hlNb (by decide)) (by rw [val_dig, val_dig]; exact HL.out) HLL.out).mono ?_
          rintro e w2 ⟨v, rfl, h1, h2⟩
          rw [val_dig, val_dig] at h1
          obtain ⟨A, l, c, rfl⟩ := h1.form
          exact hK _ _ ⟨hC.1.trans (h2.mono hC.1.size), hC.2.1.on h2, hC.2.2.1.below h2, hC.2.2.2.below h2⟩ h2 ⟨_, _, _, rfl, h1⟩
        · intro a' w' hag hC hd K hK
          have e29 : a'.tmps.getD 29 undef = .bool p := hd.1
          obtain ⟨A32, l32, c32, e32, h32⟩ := hd.2.1
          have e32 : a'.tmps.getD 32 undef = .slice A32 l32 c32 := e32
          go_step
          refine (made_any p h32 (by rw [h32.len.1]; exact Nat.le_trans (dig_len_mono _ _ (Nat.sub_le _ _)) (Nat.le_trans KN.out (by decide)))).mono ?_
          rintro e w2 ⟨rfl, hb⟩
          rw [val_dig, HV.out.1 HL.out, ← HRES.out]
          exact hK _ _ ⟨hC.1.trans (hb.mono hC.1.size), hC.2.1.on hb, hC.2.2.1.below hb, hC.2.2.2.below hb⟩ hb rfl
        · intro u w' hC hall
          obtain ⟨u0, u1, u2, u3, u4, u5, _⟩ := hall
          have u0 : u 0 = .pointer (some ⟨w0.heap.size, 0, none⟩) := u0
          have u1 : u 1 = .bool p := u1
          have u2 : u 2 = .slice A9 lN c9 := u2
          have u3 : u 3 = .slice A12 lM c12 := u3
          have u5 : u 5 = .agg #[.bool ra, .string ru] := u5
          simp only [fillR, List.take_succ_cons, List.take_zero, Act.put, List.setIfInBounds_toArray, List.set_cons_succ, List.set_cons_zero, Nat.zero_add, Nat.reduceAdd, u0, u1, u2, u3, u5]
          clear u0 u1 u2 u3 u5
          have HB9 := Lib.hid hC.1
          have HX9 := Lib.hid (hC.2.1.get 0 rfl)
          clear hC
          have hp0 := HX9.out.cell 0 _ rfl
          have hp1 := HX9.out.cell 1 _ rfl
          have hf := HX9.out.frozen
          go_wp2
          have hk := (HX9.out.set 0 (.bool ra)).set 1 (.string ru)
          have k0 := hk.cell 0 _ rfl
          have k1 := hk.cell 1 _ rfl
          exact bodyPost_ret (v := .agg #[.bool ra, .string ru]) (by simp [results, Tryz.results62, go_sem, k0, k1]) rfl ⟨_, _, rfl, HRA, HRU, below_put2 HB9.out (by omega) _ _⟩
      · have hr0 : r < 0 := by rw [HR.out, cmpN_lt (by omega)]; decide
        have HL := Lib.hid (Nat.not_le.1 hle)
        have HLL : Hid (lN ≤ lM) := by rw [Hid, H9.out.len.1, H12.out.len.1]; exact dig_len_mono _ _ (by omega)
        go_wp2
        refine wp_region_acts 6 (fun w' => Below w0.heap.size w0 w' ∧ Frames w' [(w0.heap.size + 1 + 1, #[.bool false, .string ⟨#[]⟩], 23), (w0.heap.size + 1, #[.bool q, .string t], 23), (w0.heap.size, #[.bool p, .string s], 23)] ∧ Words w' (.slice A9 lN c9) (dig N) ∧ Words w' (.slice A12 lM c12) (dig M)) (fun w w' => Below w.heap.size w w') (fun i w v => match i with
            | 0 => v = .pointer (some ⟨w0.heap.size + 1, 0, none⟩)
            | 1 => v = .bool q
            | 2 => v = .slice A12 lM c12
            | 3 => v = .slice A9 lN c9
            | 4 => ∃ A l c, v = .slice A l c ∧ Words w (.slice A l c) (dig (M - N))
            | _ => v = .agg #[.bool ra, .string ru]) (by kernel_rfl) (by kernel_rfl) (by kernel_rfl) ⟨HC.out.1.drew, HC.out.2.on (Below.drew (Below.refl _ _)), H9.out.below (Below.drew (Below.refl _ _)), H12.out.below (Below.drew (Below.refl _ _))⟩ (fun _ _ => (Below.refl _ _)) ?_ ⟨?_, ?_, ?_, ?_, ?_, ?_, trivial⟩ ?_
        · intro i w1 w2 v hC hC2 hE hV
          match i with
          | 0 => exact hV
          | 1 => exact hV
          | 2 => exact hV
          | 3 => exact hV
          | 4 => obtain ⟨A, l, c, e, h⟩ := hV; exact ⟨A, l, c, e, h.below hE⟩
          | _ + 5 => exact hV
        · intro a' w' hag hC hd K hK
          have e3 : a'.tmps.getD 3 undef = .pointer (some ⟨w0.heap.size + 1, 0, none⟩) := hag 3 rfl
          go_step
          exact hK _ _ hC ((Below.refl _ _)) rfl
        · intro a' w' hag hC hd K hK
          have e34 : a'.tmps.getD 34 undef = .pointer (some ⟨w0.heap.size + 1, 0, none⟩) := hd.1
          have hc0 := (hC.2.1.get 1 rfl).cell 0 (.bool q) rfl
          have HK := Lib.hid (hK (.bool q) _ hC (Below.refl _ _) rfl)
          clear hK hC
          go_step
          exact HK.out
        · intro a' w' hag hC hd K hK
          have e6 : a'.tmps.getD 6 undef = .slice A12 lM c12 := hag 6 rfl
          go_step
          exact hK _ _ hC ((Below.refl _ _)) rfl
        · intro a' w' hag hC hd K hK
          have e5 : a'.tmps.getD 5 undef = .slice A9 lN c9 := hag 5 rfl
          go_step
          exact hK _ _ hC ((Below.refl _ _)) rfl
        · intro a' w' hag hC hd K hK
          have e36 : a'.tmps.getD 36 undef = .slice A12 lM c12 := hd.1
          have e37 : a'.tmps.getD 37 undef = .slice A9 lN c9 := hd.2.1
          go_step
          refine (rless_any hC.2.2.2 hC.2.2.1 (Nat.le_trans hlMb (by decide)) (by rw [val_dig, val_dig]; exact Nat.le_of_lt HL.out) HLL.out).mono ?_
          rintro e w2 ⟨v, rfl, h1, h2⟩
          rw [val_dig, val_dig] at h1
          obtain ⟨A, l, c, rfl⟩ := h1.form
          exact hK _ _ ⟨hC.1.trans (h2.mono hC.1.size), hC.2.1.on h2, hC.2.2.1.below h2, hC.2.2.2.below h2⟩ h2 ⟨_, _, _, rfl, h1⟩
        · intro a' w' hag hC hd K hK
          have e35 : a'.tmps.getD 35 undef = .bool q := hd.1
          obtain ⟨A38, l38, c38, e38, h38⟩ := hd.2.1
          have e38 : a'.tmps.getD 38 undef = .slice A38 l38 c38 := e38
          go_step
          refine (made_any q h38 (by rw [h38.len.1]; exact Nat.le_trans (dig_len_mono _ _ (Nat.sub_le _ _)) (Nat.le_trans KM.out (by decide)))).mono ?_
          rintro e w2 ⟨rfl, hb⟩
          rw [val_dig, HV.out.2 HL.out, ← HRES.out]
          exact hK _ _ ⟨hC.1.trans (hb.mono hC.1.size), hC.2.1.on hb, hC.2.2.1.below hb, hC.2.2.2.below hb⟩ hb rfl
        · intro u w' hC hall
          obtain ⟨u0, u1, u2, u3, u4, u5, _⟩ := hall
          have u0 : u 0 = .pointer (some ⟨w0.heap.size + 1, 0, none⟩) := u0
          have u1 : u 1 = .bool q := u1
          have u2 : u 2 = .slice A12 lM c12 := u2
          have u3 : u 3 = .slice A9 lN c9 := u3
          have u5 : u 5 = .agg #[.bool ra, .string ru] := u5
          simp only [fillR, List.take_succ_cons, List.take_zero, Act.put, List.setIfInBounds_toArray, List.set_cons_succ, List.set_cons_zero, Nat.zero_add, Nat.reduceAdd, u0, u1, u2, u3, u5]
          clear u0 u1 u2 u3 u5
          have HB9 := Lib.hid hC.1
          have HX9 := Lib.hid (hC.2.1.get 0 rfl)
          clear hC
          have hp0 := HX9.out.cell 0 _ rfl
          have hp1 := HX9.out.cell 1 _ rfl
          have hf := HX9.out.frozen
          go_wp2
          have hk := (HX9.out.set 0 (.bool ra)).set 1 (.string ru)
          have k0 := hk.cell 0 _ rfl
          have k1 := hk.cell 1 _ rfl
          exact bodyPost_ret (v := .agg #[.bool ra, .string ru]) (by simp [results, Tryz.results62, go_sem, k0, k1]) rfl ⟨_, _, rfl, HRA, HRU, below_put2 HB9.out (by omega) _ _⟩

theorem cmpI_sgn {n m : Int} (h : n.sign = m.sign) : n.sign * cmpN n.natAbs m.natAbs = cmpI n m := by
  by_cases a : n < 0
  · have b : m < 0 := by
      rw [Int.sign_eq_neg_one_of_neg a] at h
      exact Int.sign_eq_neg_one_iff_neg.1 h.symm
    rw [← cmpI_neg a b, Int.sign_eq_neg_one_of_neg a]
    unfold cmpN
    by_cases c : n.natAbs < m.natAbs
    · rw [if_pos c, if_neg (by omega), if_pos c]; rfl
    · by_cases d : m.natAbs < n.natAbs
      · rw [if_neg c, if_pos d, if_pos d]; rfl
      · rw [if_neg c, if_neg d, if_neg d, if_neg c]; rfl
  · have b : ¬ m < 0 := by
      intro b
      rw [Int.sign_eq_neg_one_of_neg b] at h
      exact a (Int.sign_eq_neg_one_iff_neg.1 h)
    rw [← cmpI_pos a b]
    by_cases c : n = 0
    · subst c
      have d : m = 0 := Int.sign_eq_zero_iff_zero.1 h.symm
      subst d
      rfl
    · rw [Int.sign_eq_one_of_pos (by omega), Int.one_mul]
theorem cmpI_ne {n m : Int} : (n.sign < m.sign → cmpI n m = -1) ∧ (m.sign < n.sign → cmpI n m = 1) := by
  have h : ∀ k : Int, k.sign = -1 ∧ k < 0 ∨ k.sign = 0 ∧ k = 0 ∨ k.sign = 1 ∧ 0 < k := by
    intro k
    rcases Int.lt_trichotomy k 0 with h | h | h
    · exact .inl ⟨Int.sign_eq_neg_one_of_neg h, h⟩
    · exact .inr (.inl ⟨by rw [h]; rfl, h⟩)
    · exact .inr (.inr ⟨Int.sign_eq_one_of_pos h, h⟩)
  unfold cmpI
  constructor
  · intro k
    rw [if_pos]
    rcases h n with a | a | a <;> rcases h m with b | b | b <;> omega
  · intro k
    rw [if_neg, if_pos] <;> rcases h n with a | a | a <;> rcases h m with b | b | b <;> omega

set_option maxHeartbeats 3200000 in
set_option maxRecDepth 100000 in
theorem rcmp_any {w0 : World} (p q : Bool) (s t : ByteArray) (n m : Int) (hp : p = decide (n < 0)) (hq : q = decide (m < 0)) (hs : s = mag n.natAbs) (ht : t = mag m.natAbs) (h1 : s.size ≤ 100000) (h2 : t.size ≤ 100000) :
    Calls Tryz.prog 63 #[.agg #[.bool p, .string s], .agg #[.bool q, .string t]] w0 fun e w' => e = .returned (.int .i64 (cmpI n m)) ∧ Below w0.heap.size w0 w' := by
  have hf1 := ((Frames.nil w0).push w0.heap.size #[.bool p, .string s] 23 rfl).push (w0.heap.size + 1) #[.bool q, .string t] 23 (by simp)
  have HB := Lib.hid (below_alloc_ (below_new w0 (.cells #[.bool p, .string s] 23)) (.cells #[.bool q, .string t] 23))
  have HF := Lib.hid hf1
  have HS := Lib.hid hs
  have HT := Lib.hid ht
  have HP := Lib.hid hp
  have HQ := Lib.hid hq
  have H1 : Hid (s.size ≤ 4294967296) := Nat.le_trans h1 (by decide)
  have H2 : Hid (t.size ≤ 4294967296) := Nat.le_trans h2 (by decide)
  obtain ⟨a, ha⟩ : ∃ a, a = n.sign := ⟨_, rfl⟩
  obtain ⟨b, hb⟩ : ∃ b, b = m.sign := ⟨_, rfl⟩
  have HA := Lib.hid ha
  have HBB := Lib.hid hb
  have HNE := Lib.hid (@cmpI_ne n m)
  have HEQ := Lib.hid (@cmpI_sgn n m)
  rw [← ha, ← hb] at HNE HEQ
  obtain ⟨r, hr⟩ : ∃ r, r = cmpI n m := ⟨_, rfl⟩
  rw [← hr] at HNE HEQ
  have HR := Lib.hid hr
  obtain ⟨c, hu⟩ : ∃ c, c = cmpN n.natAbs m.natAbs := ⟨_, rfl⟩
  rw [← hu] at HEQ
  have HU := Lib.hid hu
  clear hs ht hp hq h1 h2 hf1 ha hb hu
  rw [← hr]
  clear hr
  go_enter Tryz.func63, Tryz.ntmps63
  go_wp2
  generalize (w0.alloc (.cells #[.bool p, .string s] 23)).alloc (.cells #[.bool q, .string t] 23) = w1 at HB HF ⊢
  refine wp_region_acts 4 (fun w' => Below w0.heap.size w0 w' ∧ Frames w' [(w0.heap.size + 1, #[.bool q, .string t], 23), (w0.heap.size, #[.bool p, .string s], 23)]) (fun w w' => Below w.heap.size w w') (fun i w v => match i with
      | 0 => v = .agg #[.bool p, .string s]
      | 1 => v = .int .i64 a
      | 2 => v = .agg #[.bool q, .string t]
      | _ => v = .int .i64 b) (by kernel_rfl) (by kernel_rfl) (by kernel_rfl) ⟨HB.out.drew, HF.out.on (Below.drew (Below.refl _ _))⟩ (fun _ _ => (Below.refl _ _)) ?_ ⟨?_, ?_, ?_, ?_, trivial⟩ ?_
  · intro i w1 w2 v hC hC2 hE hV
    match i with
    | 0 => exact hV
    | 1 => exact hV
    | 2 => exact hV
    | _ + 3 => exact hV
  · intro a' w' hag hC hd K hK
    have e2 : a'.tmps.getD 2 undef = .pointer (some ⟨w0.heap.size, 0, none⟩) := hag 2 rfl
    have hc0 := (hC.2.get 1 rfl).cell 0 (.bool p) rfl
    have hc1 := (hC.2.get 1 rfl).cell 1 (.string s) rfl
    have HK := Lib.hid (hK (.agg #[.bool p, .string s]) _ hC (Below.refl _ _) rfl)
    clear hK hC
    go_step
    exact HK.out
  · intro a' w' hag hC hd K hK
    have e7 : a'.tmps.getD 7 undef = .agg #[.bool p, .string s] := hd.1
    go_step
    refine (rsign_any p s n HP.out HS.out).mono ?_
    rintro e w2 ⟨rfl, hb⟩
    rw [← HA.out]
    exact hK _ _ ⟨hC.1.trans (hb.mono hC.1.size), hC.2.on hb⟩ hb rfl
  · intro a' w' hag hC hd K hK
    have e3 : a'.tmps.getD 3 undef = .pointer (some ⟨w0.heap.size + 1, 0, none⟩) := hag 3 rfl
    have hc0 := (hC.2.get 0 rfl).cell 0 (.bool q) rfl
    have hc1 := (hC.2.get 0 rfl).cell 1 (.string t) rfl
    have HK := Lib.hid (hK (.agg #[.bool q, .string t]) _ hC (Below.refl _ _) rfl)
    clear hK hC
    go_step
    exact HK.out
  · intro a' w' hag hC hd K hK
    have e9 : a'.tmps.getD 9 undef = .agg #[.bool q, .string t] := hd.1
    go_step
    refine (rsign_any q t m HQ.out HT.out).mono ?_
    rintro e w2 ⟨rfl, hb⟩
    rw [← HBB.out]
    exact hK _ _ ⟨hC.1.trans (hb.mono hC.1.size), hC.2.on hb⟩ hb rfl
  · intro u w' hC hall
    obtain ⟨u0, u1, u2, u3, _⟩ := hall
    have u0 : u 0 = .agg #[.bool p, .string s] := u0
    have u1 : u 1 = .int .i64 a := u1
    have u2 : u 2 = .agg #[.bool q, .string t] := u2
    have u3 : u 3 = .int .i64 b := u3
    simp only [fillR, List.take_succ_cons, List.take_zero, Act.put, List.setIfInBounds_toArray, List.set_cons_succ, List.set_cons_zero, Nat.zero_add, Nat.reduceAdd, u0, u1, u2, u3]
    clear u0 u1 u2 u3
    have HC := Lib.hid hC
    clear hC
    by_cases hab : a = b
    · have HE := HEQ.out hab
      subst hab
      have HEH := Lib.hid HE
      clear HE
      go_wp2
      obtain ⟨w2, hww⟩ : ∃ w2, w2 = w' := ⟨_, rfl⟩
      rw [← hww] at HC ⊢
      have HC2 := HC
      clear hww HC
      refine wp_region_acts 8 (fun w' => Below w0.heap.size w0 w' ∧ Frames w' [(w0.heap.size + 1, #[.bool q, .string t], 23), (w0.heap.size, #[.bool p, .string s], 23)]) (fun w w' => Below w.heap.size w w') (fun i w v => match i with
          | 0 => v = .int .i64 a
          | 1 => v = .pointer (some ⟨w0.heap.size, 1, none⟩)
          | 2 => v = .string s
          | 3 => ∃ A c, v = .slice A (dig n.natAbs).length c ∧ Words w (.slice A (dig n.natAbs).length c) (dig n.natAbs)
          | 4 => v = .pointer (some ⟨w0.heap.size + 1, 1, none⟩)
          | 5 => v = .string t
          | 6 => ∃ A c, v = .slice A (dig m.natAbs).length c ∧ Words w (.slice A (dig m.natAbs).length c) (dig m.natAbs)
          | _ => v = .int .i64 c) (by kernel_rfl) (by kernel_rfl) (by kernel_rfl) ⟨HC2.out.1.drew, HC2.out.2.on (Below.drew (Below.refl _ _))⟩ (fun _ _ => (Below.refl _ _)) ?_ ⟨?_, ?_, ?_, ?_, ?_, ?_, ?_, ?_, trivial⟩ ?_
      · intro i w1 w2 v hC hC2 hE hV
        match i with
        | 0 => exact hV
        | 1 => exact hV
        | 2 => exact hV
        | 3 => obtain ⟨A, c, e, h⟩ := hV; exact ⟨A, c, e, h.below hE⟩
        | 4 => exact hV
        | 5 => exact hV
        | 6 => obtain ⟨A, c, e, h⟩ := hV; exact ⟨A, c, e, h.below hE⟩
        | _ + 7 => exact hV
      · intro a' w' hag hC hd K hK
        have e5 : a'.tmps.getD 5 undef = .int .i64 a := hag 5 rfl
        go_step
        exact hK _ _ hC ((Below.refl _ _)) rfl
      · intro a' w' hag hC hd K hK
        have e2 : a'.tmps.getD 2 undef = .pointer (some ⟨w0.heap.size, 0, none⟩) := hag 2 rfl
        go_step
        exact hK _ _ hC ((Below.refl _ _)) rfl
      · intro a' w' hag hC hd K hK
        have e18 : a'.tmps.getD 18 undef = .pointer (some ⟨w0.heap.size, 1, none⟩) := hd.1
        have hc0 := (hC.2.get 1 rfl).cell 1 (.string s) rfl
        have HK := Lib.hid (hK (.string s) _ hC (Below.refl _ _) rfl)
        clear hK hC
        go_step
        exact HK.out
      · intro a' w' hag hC hd K hK
        have e19 : a'.tmps.getD 19 undef = .string s := hd.1
        go_step
        refine (words_any s n.natAbs HS.out H1.out).mono ?_
        rintro e w2 ⟨A, c, rfl, h1, h2⟩
        exact hK _ _ ⟨hC.1.trans (h2.mono hC.1.size), hC.2.on h2⟩ h2 ⟨_, _, rfl, h1⟩
      · intro a' w' hag hC hd K hK
        have e3 : a'.tmps.getD 3 undef = .pointer (some ⟨w0.heap.size + 1, 0, none⟩) := hag 3 rfl
        go_step
        exact hK _ _ hC ((Below.refl _ _)) rfl
      · intro a' w' hag hC hd K hK
        have e21 : a'.tmps.getD 21 undef = .pointer (some ⟨w0.heap.size + 1, 1, none⟩) := hd.1
        have hc0 := (hC.2.get 0 rfl).cell 1 (.string t) rfl
        have HK := Lib.hid (hK (.string t) _ hC (Below.refl _ _) rfl)
        clear hK hC
        go_step
        exact HK.out
      · intro a' w' hag hC hd K hK
        have e22 : a'.tmps.getD 22 undef = .string t := hd.1
        go_step
        refine (words_any t m.natAbs HT.out H2.out).mono ?_
        rintro e w2 ⟨A, c, rfl, h1, h2⟩
        exact hK _ _ ⟨hC.1.trans (h2.mono hC.1.size), hC.2.on h2⟩ h2 ⟨_, _, rfl, h1⟩
      · intro a' w' hag hC hd K hK
        obtain ⟨A20, c20, e20, h20⟩ := hd.1
        have e20 : a'.tmps.getD 20 undef = .slice A20 (dig n.natAbs).length c20 := e20
        obtain ⟨A23, c23, e23, h23⟩ := hd.2.1
        have e23 : a'.tmps.getD 23 undef = .slice A23 (dig m.natAbs).length c23 := e23
        go_step
        refine (runder_any h20 h23).mono ?_
        rintro e w2 ⟨rfl, kk, rfl⟩
        rw [← HU.out]
        exact hK _ _ ⟨hC.1.trans (Below.drewN_ (Below.refl _ _) kk), hC.2.on (Below.drewN_ (Below.refl _ _) kk)⟩ (Below.drewN_ (Below.refl _ _) kk) rfl
      · intro u w' hC hall
        obtain ⟨u0, u1, u2, u3, u4, u5, u6, u7, _⟩ := hall
        have u0 : u 0 = .int .i64 a := u0
        have u1 : u 1 = .pointer (some ⟨w0.heap.size, 1, none⟩) := u1
        have u2 : u 2 = .string s := u2
        have u4 : u 4 = .pointer (some ⟨w0.heap.size + 1, 1, none⟩) := u4
        have u5 : u 5 = .string t := u5
        have u7 : u 7 = .int .i64 c := u7
        simp only [fillR, List.take_succ_cons, List.take_zero, Act.put, List.setIfInBounds_toArray, List.set_cons_succ, List.set_cons_zero, Nat.zero_add, Nat.reduceAdd, u0, u1, u2, u4, u5, u7]
        clear u0 u1 u2 u4 u5 u7
        have HB9 := Lib.hid hC.1
        clear hC
        have hrng : r = -1 ∨ r = 0 ∨ r = 1 := by
          rw [HR.out]; unfold cmpI; split
          · exact .inl rfl
          · split
            · exact .inr (.inr rfl)
            · exact .inr (.inl rfl)
        have hfit : wrap64 (a * c) = r := by rw [HEH.out]; unfold wrap64; omega
        go_wp2
        go_ret
        exact ⟨rfl, HB9.out⟩
    · have hne : (a != b) = true := bne_iff_ne.2 hab
      by_cases hlt : a < b
      · have HRR := Lib.hid (HNE.out.1 hlt)
        go_wp2
        go_ret
        exact ⟨by rw [HRR.out]; rfl, HC.out.1⟩
      · have hge : b ≤ a := by omega
        have HRR := Lib.hid (HNE.out.2 (by omega))
        go_wp2
        go_ret
        exact ⟨by rw [HRR.out]; rfl, HC.out.1⟩
end Go.Proofs.YtaenedjanckaiaaGreat
