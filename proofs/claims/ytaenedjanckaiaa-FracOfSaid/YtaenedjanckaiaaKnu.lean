/- The long division of words: plain arithmetic. -/
import Derived.Test.YtaenedjanckaiaaNum
namespace Go.Proofs.Ytaenedjanckaiaa
set_option linter.unnecessarySimpa false
set_option linter.unusedVariables false
set_option linter.unusedSimpArgs false

theorem knu_le (U V top v1 P : Nat) (h1 : U < (top + 1) * P) (h2 : v1 * P ≤ V) (h3 : 0 < v1) (hV : 0 < V) : U < (top / v1 + 1) * V := by
  have hQ : U / V ≤ top / v1 := by
    rw [Nat.le_div_iff_mul_le h3]
    have e1 : U / V * V ≤ U := Nat.div_mul_le_self U V
    have e2 : U / V * v1 * P ≤ U / V * V := by rw [Nat.mul_assoc]; exact Nat.mul_le_mul_left _ h2
    have e3 : U / V * v1 * P < (top + 1) * P := Nat.lt_of_le_of_lt (Nat.le_trans e2 e1) h1
    have := Nat.lt_of_mul_lt_mul_right e3
    omega
  have := Nat.lt_mul_div_succ U hV
  have e4 : V * (U / V + 1) ≤ (top / v1 + 1) * V := by rw [Nat.mul_comm]; exact Nat.mul_le_mul_right _ (by omega)
  omega

/-- What is fixed while a digit is tried. -/
structure Knu (U V top v1 v2 u2 P : Nat) : Prop where
  hU : U < 4294967296 * V
  hT : (top * 4294967296 + u2) * P ≤ U
  hT' : U < (top * 4294967296 + u2 + 1) * P
  hW : (v1 * 4294967296 + v2) * P ≤ V
  hW' : V < (v1 * 4294967296 + v2 + 1) * P
  h1 : 2147483648 ≤ v1
  h1' : v1 < 4294967296
  h2 : v2 < 4294967296
  hu2 : u2 < 4294967296

theorem Knu.pos {U V top v1 v2 u2 P : Nat} (k : Knu U V top v1 v2 u2 P) : 0 < P := by
  rcases Nat.eq_zero_or_pos P with rfl | h
  · have := k.hT'; simp at this
  · exact h
theorem Knu.first {U V top v1 v2 u2 P : Nat} (k : Knu U V top v1 v2 u2 P) : U < (top / v1 + 1) * V := by
  have hP := k.pos
  have h1 := k.h1
  have hV : 0 < V := by
    have := k.hW
    have h2 : 1 * P ≤ (v1 * 4294967296 + v2) * P := Nat.mul_le_mul_right _ (by omega)
    omega
  refine knu_le U V top v1 (4294967296 * P) ?_ ?_ (by omega) hV
  · refine Nat.lt_of_lt_of_le k.hT' ?_
    rw [← Nat.mul_assoc]
    exact Nat.mul_le_mul_right _ (by have := k.hu2; omega)
  · refine Nat.le_trans ?_ k.hW
    rw [← Nat.mul_assoc]
    exact Nat.mul_le_mul_right _ (by omega)
theorem Knu.down {U V top v1 v2 u2 P q r : Nat} (k : Knu U V top v1 v2 u2 P) (hq : q * v1 + r = top) (h : 4294967296 ≤ q ∨ r * 4294967296 + u2 < q * v2) : U < q * V := by
  rcases h with h | h
  · exact Nat.lt_of_lt_of_le k.hU (Nat.mul_le_mul_right _ h)
  · refine Nat.lt_of_lt_of_le k.hT' (Nat.le_trans ?_ (Nat.mul_le_mul_left q k.hW))
    rw [← Nat.mul_assoc]
    refine Nat.mul_le_mul_right _ ?_
    rw [← hq, Nat.mul_add, Nat.add_mul, ← Nat.mul_assoc]
    omega
theorem Knu.done {U V top v1 v2 u2 P q r : Nat} (k : Knu U V top v1 v2 u2 P) (hq : q * v1 + r = top) (h1 : q < 4294967296) (h2 : q * v2 ≤ r * 4294967296 + u2) : q * V ≤ U + V := by
  have e1 : q * (v1 * 4294967296 + v2) ≤ top * 4294967296 + u2 := by
    rw [← hq, Nat.mul_add, Nat.add_mul, ← Nat.mul_assoc]; omega
  have e2 : q * V ≤ q * ((v1 * 4294967296 + v2 + 1) * P) := Nat.mul_le_mul_left _ (Nat.le_of_lt k.hW')
  have e3 : q * ((v1 * 4294967296 + v2 + 1) * P) = q * (v1 * 4294967296 + v2) * P + q * P := by
    rw [Nat.add_mul (v1 * 4294967296 + v2) 1 P, Nat.mul_add, Nat.one_mul, Nat.mul_assoc]
  have e4 : q * (v1 * 4294967296 + v2) * P ≤ (top * 4294967296 + u2) * P := Nat.mul_le_mul_right _ e1
  have e5 : q * P ≤ (v1 * 4294967296 + v2) * P := Nat.mul_le_mul_right _ (by have := k.h1; omega)
  have := k.hT
  have := k.hW
  omega
theorem Knu.top_le {U V top v1 v2 u2 P : Nat} (k : Knu U V top v1 v2 u2 P) : top ≤ v1 * 4294967296 + v2 := by
  have e1 : (top * 4294967296 + u2) * P < 4294967296 * (v1 * 4294967296 + v2 + 1) * P := by
    refine Nat.lt_of_le_of_lt k.hT (Nat.lt_of_lt_of_le k.hU ?_)
    rw [Nat.mul_assoc]
    exact Nat.mul_le_mul_left _ (Nat.le_of_lt k.hW')
  have := Nat.lt_of_mul_lt_mul_right e1
  omega
theorem Knu.out {U V top v1 v2 u2 P q r : Nat} (k : Knu U V top v1 v2 u2 P) (hq : q * v1 + r = top) (hr : 4294967296 ≤ r) : q < 4294967296 ∧ q * v2 ≤ r * 4294967296 + u2 := by
  have ht := k.top_le
  have h2 := k.h2
  have h1 : q < 4294967296 := by
    have : q * v1 < 4294967296 * v1 := by omega
    exact Nat.lt_of_mul_lt_mul_right this
  refine ⟨h1, ?_⟩
  have e1 : q * v2 ≤ 4294967296 * 4294967296 := Nat.mul_le_mul (by omega) (by omega)
  omega

/-- A round of q times v taken off u. -/
theorem step_val (us vs ms : List Nat) (k q c b z b' t : Nat) (hk : ms.length = k) (hv : val ms + q * val (vs.take k) = val (us.take k) + 4294967296 ^ k * (b + c))
    (ht : t = c + q * vs.getD k 0) (hz : z + (t % 4294967296 + b) = us.getD k 0 + 4294967296 * b') :
    val (ms ++ [z]) + q * val (vs.take (k + 1)) = val (us.take (k + 1)) + 4294967296 ^ (k + 1) * (b' + t / 4294967296) := by
  rw [val_snoc, hk, val_take_step vs k, val_take_step us k, Nat.mul_add q, Nat.mul_left_comm q, Nat.pow_succ, Nat.mul_assoc (4294967296 ^ k)]
  generalize 4294967296 ^ k = p at *
  have h1 := Nat.mod_add_div t 4294967296
  have h2 : p * (z + (t % 4294967296 + b) + (4294967296 * (t / 4294967296))) = p * (us.getD k 0 + 4294967296 * b' + 4294967296 * (t / 4294967296)) := by rw [hz]
  have h3 : z + (t % 4294967296 + b) + 4294967296 * (t / 4294967296) = z + b + (c + q * vs.getD k 0) := by omega
  have h4 : us.getD k 0 + 4294967296 * b' + 4294967296 * (t / 4294967296) = us.getD k 0 + 4294967296 * (b' + t / 4294967296) := by omega
  rw [h3, h4] at h2
  simp only [Nat.mul_add] at *
  omega
theorem step_carry (q x c : Nat) (hq : q < 4294967296) (hx : x < 4294967296) (hc : c < 4294967296) : c + q * x ≤ 18446744069414584320 ∧ (c + q * x) / 4294967296 < 4294967296 := by
  have := mul_word q x hq hx
  omega
/-- Its end: nothing was borrowed. -/
theorem step_end0 (us ms : List Nat) (U V q m : Nat) (hU : val us = U) (hv : val ms + q * V = U + 4294967296 ^ m * 0) (hU2 : U < (q + 1) * V) : val ms + q * V = U ∧ val ms < V := by
  rw [Nat.add_mul] at hU2
  omega
/-- Its end: something was: v once more. -/
theorem step_end1 (ms ns : List Nat) (U V q m c : Nat) (hv : val ms + q * V = U + 4294967296 ^ m * 1) (hm : Wf ms) (hml : ms.length = m) (hn : Wf ns) (hnl : ns.length = m) (hc : c ≤ 1)
    (hs : val ns + 4294967296 ^ m * c = val ms + V) (hV : V < 4294967296 ^ m) (hq : q * V ≤ U + V) : 1 ≤ q ∧ val ns + (q - 1) * V = U ∧ val ns < V := by
  have h1 := val_lt ms hm
  have h2 := val_lt ns hn
  rw [hml] at h1
  rw [hnl] at h2
  have hq1 : 1 ≤ q := by
    rcases Nat.eq_zero_or_pos q with rfl | h
    · omega
    · exact h
  obtain ⟨q', rfl⟩ : ∃ q', q = q' + 1 := ⟨q - 1, by omega⟩
  rw [Nat.add_mul, Nat.one_mul] at hv hq
  rw [Nat.add_sub_cancel]
  generalize 4294967296 ^ m = p at *
  rcases Nat.eq_zero_or_pos c with rfl | h
  · omega
  · obtain rfl : c = 1 := by omega
    omega

/-- A divisor moved up so that its highest bit is 1. -/
theorem norm_top (b n t k : Nat) (hn : (dig b).length = n) (h0 : 0 < n) (ht : (dig b).getD (n - 1) 0 = t) (h1 : 2147483648 ≤ t * 2 ^ k) (h2 : t * 2 ^ k < 4294967296) (hk : k ≤ 31) :
    (dig (b * 2 ^ k)).length = n ∧ 2147483648 ≤ (dig (b * 2 ^ k)).getD (n - 1) 0 ∧ 4294967296 ^ (n - 1) * 2147483648 ≤ b * 2 ^ k := by
  have hb : b = val ((dig b).take (n - 1)) + 4294967296 ^ (n - 1) * t := by
    have := val_take_succ (dig b) (n - 1) (by omega)
    rw [show n - 1 + 1 = n by omega, val_take_all _ _ (by omega), val_dig, ht] at this
    exact this
  have hlow := val_lt ((dig b).take (n - 1)) ((Wf_dig b).take _)
  rw [List.length_take, Nat.min_eq_left (by omega)] at hlow
  generalize val ((dig b).take (n - 1)) = low at *
  have hp : 0 < 4294967296 ^ (n - 1) := Nat.pow_pos (by omega)
  have hge : 4294967296 ^ (n - 1) * 2147483648 ≤ b * 2 ^ k := by
    rw [hb, Nat.add_mul, Nat.mul_assoc]
    have := Nat.mul_le_mul_left (4294967296 ^ (n - 1)) h1
    omega
  have hup : (t + 1) * 2 ^ k ≤ 4294967296 := by
    have e : (4294967296 : Nat) = 2 ^ (32 - k) * 2 ^ k := by rw [← Nat.pow_add, show 32 - k + k = 32 by omega]
    rw [e] at h2 ⊢
    exact Nat.mul_le_mul_right _ (Nat.lt_of_mul_lt_mul_right h2)
  have hlt : b * 2 ^ k < 4294967296 ^ n := by
    have e1 : b * 2 ^ k < 4294967296 ^ (n - 1) * (t + 1) * 2 ^ k := by
      refine Nat.mul_lt_mul_of_pos_right ?_ (Nat.two_pow_pos k)
      rw [Nat.mul_add, hb]; omega
    rw [Nat.mul_assoc] at e1
    have e2 := Nat.mul_le_mul_left (4294967296 ^ (n - 1)) hup
    have e3 : 4294967296 ^ n = 4294967296 ^ (n - 1) * 4294967296 := by rw [← Nat.pow_succ]; congr 1; omega
    omega
  have hlen : (dig (b * 2 ^ k)).length = n := by
    refine Nat.le_antisymm (dig_len_le _ _ hlt) ?_
    have h3 := dig_lt (b * 2 ^ k)
    rcases Nat.lt_or_ge (dig (b * 2 ^ k)).length n with h | h
    · exfalso
      have h4 : 4294967296 ^ (dig (b * 2 ^ k)).length ≤ 4294967296 ^ (n - 1) := Nat.pow_le_pow_right (by omega) (by omega)
      have h5 : 4294967296 ^ (n - 1) * 1 ≤ 4294967296 ^ (n - 1) * 2147483648 := Nat.mul_le_mul_left _ (by omega)
      omega
    · exact h
  refine ⟨hlen, ?_, hge⟩
  have h3 := val_take_succ (dig (b * 2 ^ k)) (n - 1) (by omega)
  rw [show n - 1 + 1 = n by omega, val_take_all _ _ (by omega), val_dig] at h3
  have h4 := val_lt ((dig (b * 2 ^ k)).take (n - 1)) ((Wf_dig _).take _)
  rw [List.length_take, Nat.min_eq_left (by omega)] at h4
  rcases Nat.lt_or_ge ((dig (b * 2 ^ k)).getD (n - 1) 0) 2147483648 with h | h
  · exfalso
    have h5 : 4294967296 ^ (n - 1) * ((dig (b * 2 ^ k)).getD (n - 1) 0 + 1) ≤ 4294967296 ^ (n - 1) * 2147483648 := Nat.mul_le_mul_left _ h
    rw [Nat.mul_add] at h5
    omega
  · exact h

/-- The whole while digits are told: us what is left, qs the quotient, from j on. -/
structure Div (us0 us qs : List Nat) (V j L n : Nat) : Prop where
  lu : us.length = L
  lq : qs.length = L - n
  low : us.take j = us0.take j
  rest : val (us.drop j) < V
  eq : val (qs.drop j) * V + val (us.drop j) = val (us0.drop j)

theorem drop_cons (xs : List Nat) (j : Nat) (h : j < xs.length) : xs.drop j = xs.getD j 0 :: xs.drop (j + 1) := by rw [List.drop_eq_getElem_cons h, getD_in h]

/-- The window of a round. -/
theorem Div.window {us0 us qs : List Nat} {V j L n : Nat} (d : Div us0 us qs V (j + 1) L n) (hw : Wf us) (hV : V < 4294967296 ^ n) (hj : j + n + 1 ≤ L) :
    us = us.take j ++ ((us.drop j).take (n + 1) ++ us.drop (j + n + 1)) ∧ (us.take j).length = j ∧ ((us.drop j).take (n + 1)).length = n + 1 ∧ val (us.drop (j + n + 1)) = 0 ∧
    val ((us.drop j).take (n + 1)) = us.getD j 0 + 4294967296 * val (us.drop (j + 1)) ∧ val ((us.drop j).take (n + 1)) < 4294967296 * V := by
  have hl := d.lu
  have h1 : us.drop (j + n + 1) = (us.drop j).drop (n + 1) := by rw [List.drop_drop, Nat.add_assoc]
  have hz : val (us.drop (j + n + 1)) = 0 := by
    have h2 := val_take_drop (us.drop (j + 1)) n (by rw [List.length_drop]; omega)
    rw [List.drop_drop, show j + 1 + n = j + n + 1 by omega] at h2
    have h3 := d.rest
    rcases Nat.eq_zero_or_pos (val (us.drop (j + n + 1))) with h | h
    · exact h
    · have h4 : 4294967296 ^ n * 1 ≤ 4294967296 ^ n * val (us.drop (j + n + 1)) := Nat.mul_le_mul_left _ h
      omega
  have hval : val ((us.drop j).take (n + 1)) = us.getD j 0 + 4294967296 * val (us.drop (j + 1)) := by
    have h2 := val_take_drop (us.drop j) (n + 1) (by rw [List.length_drop]; omega)
    rw [← h1, hz, Nat.mul_zero, Nat.add_zero, drop_cons us j (by omega), val] at h2
    rw [drop_cons us j (by omega)]
    exact h2.symm
  refine ⟨?_, by rw [List.length_take]; omega, by rw [List.length_take, List.length_drop]; omega, hz, hval, ?_⟩
  · rw [h1, List.take_append_drop, List.take_append_drop]
  · have := hw.getD j
    have := d.rest
    omega
theorem Div.next {us0 us qs ms : List Nat} {V j L n q : Nat} (d : Div us0 us qs V (j + 1) L n) (hw : Wf us) (hV : V < 4294967296 ^ n) (hj : j + n + 1 ≤ L) (hl0 : us0.length = L) (hm : ms.length = ((us.drop j).take (n + 1)).length)
    (hq : val ms + q * V = val ((us.drop j).take (n + 1))) (hr : val ms < V) : Div us0 (us.take j ++ (ms ++ us.drop (j + n + 1))) (qs.set j q) V j L n := by
  obtain ⟨h1, h2, h3, h4, h5, h6⟩ := d.window hw hV hj
  have hl := d.lu
  have hlq := d.lq
  have hd : (us.take j ++ (ms ++ us.drop (j + n + 1))).drop j = ms ++ us.drop (j + n + 1) := by
    conv => lhs; rw [← h2]
    rw [List.length_take, Nat.min_eq_left (by omega), List.drop_append, List.drop_of_length_le (by rw [List.length_take]; omega), List.nil_append, List.length_take, Nat.min_eq_left (by omega), Nat.sub_self, List.drop_zero]
  have hvd : val (ms ++ us.drop (j + n + 1)) = val ms := by rw [val_append, h4, Nat.mul_zero, Nat.add_zero]
  have hlow : us.take j = us0.take j := by
    have := congrArg (List.take j) d.low
    rw [List.take_take, List.take_take, Nat.min_eq_left (by omega)] at this
    exact this
  have hujd : us.getD j 0 = us0.getD j 0 := by
    have := congrArg (fun l => l.getD j 0) d.low
    simp only [List.getD] at this ⊢
    rw [List.getElem?_take_of_lt (by omega), List.getElem?_take_of_lt (by omega)] at this
    exact this
  refine ⟨?_, by rw [List.length_set]; exact hlq, ?_, by rw [hd, hvd]; exact hr, ?_⟩
  · rw [List.length_append, List.length_append, h2, hm, h3, List.length_drop]; omega
  · rw [List.take_append_of_le_length (by rw [h2]; exact Nat.le_refl _), List.take_take, Nat.min_self]; exact hlow
  · rw [hd, hvd]
    have hqd : (qs.set j q).drop j = q :: qs.drop (j + 1) := by
      rw [drop_cons _ j (by rw [List.length_set]; omega), getD_in (by rw [List.length_set]; omega), List.getElem_set_self]
      congr 1
      rw [List.drop_set_of_lt (by omega)]
    rw [hqd, val, drop_cons us0 j (by omega), val, ← d.eq, ← hujd, Nat.add_mul, Nat.mul_assoc]
    omega
/-- The digits that are looked at. -/
theorem top_three (us : List Nat) (n : Nat) (hl : us.length = n + 1) (hn : 2 ≤ n) : val us = val (us.take (n - 2)) + 4294967296 ^ (n - 2) * ((us.getD n 0 * 4294967296 + us.getD (n - 1) 0) * 4294967296 + us.getD (n - 2) 0) := by
  obtain ⟨m, rfl⟩ : ∃ m, n = m + 2 := ⟨n - 2, by omega⟩
  simp only [Nat.add_sub_cancel, show m + 2 - 1 = m + 1 by omega]
  rw [val_take_drop us m (by omega), drop_cons us m (by omega), drop_cons us (m + 1) (by omega), drop_cons us (m + 2) (by omega), List.drop_of_length_le (by omega)]
  simp only [val]
  congr 2
  omega
theorem top_two (vs : List Nat) (n : Nat) (hl : vs.length = n) (hn : 2 ≤ n) : val vs = val (vs.take (n - 2)) + 4294967296 ^ (n - 2) * (vs.getD (n - 1) 0 * 4294967296 + vs.getD (n - 2) 0) := by
  obtain ⟨m, rfl⟩ : ∃ m, n = m + 2 := ⟨n - 2, by omega⟩
  simp only [Nat.add_sub_cancel, show m + 2 - 1 = m + 1 by omega]
  rw [val_take_drop vs m (by omega), drop_cons vs m (by omega), drop_cons vs (m + 1) (by omega), List.drop_of_length_le (by omega)]
  simp only [val]
  congr 2
  omega
theorem below_next (l p t : Nat) (h : l < p) : l + p * t < (t + 1) * p := by rw [Nat.add_mul, Nat.one_mul, Nat.mul_comm]; omega
theorem knu_of (us vs : List Nat) (n : Nat) (hu : us.length = n + 1) (hv : vs.length = n) (hn : 2 ≤ n) (hwu : Wf us) (hwv : Wf vs) (h1 : 2147483648 ≤ vs.getD (n - 1) 0) (hlt : val us < 4294967296 * val vs) :
    Knu (val us) (val vs) (us.getD n 0 * 4294967296 + us.getD (n - 1) 0) (vs.getD (n - 1) 0) (vs.getD (n - 2) 0) (us.getD (n - 2) 0) (4294967296 ^ (n - 2)) := by
  have e1 := top_three us n hu hn
  have e2 := top_two vs n hv hn
  have l1 := val_lt (us.take (n - 2)) (hwu.take _)
  have l2 := val_lt (vs.take (n - 2)) (hwv.take _)
  rw [List.length_take, Nat.min_eq_left (by omega)] at l1 l2
  refine ⟨hlt, ?_, ?_, ?_, ?_, h1, hwv.getD _, hwv.getD _, hwu.getD _⟩
  · rw [e1, Nat.mul_comm]; exact Nat.le_add_left _ _
  · rw [e1]; exact below_next _ _ _ l1
  · rw [e2, Nat.mul_comm]; exact Nat.le_add_left _ _
  · rw [e2]; exact below_next _ _ _ l2
/-- At the beginning. -/
theorem Div.first (us0 : List Nat) (A V k la n : Nat) (hA : A < 4294967296 ^ la) (hu : val us0 = A * 2 ^ k) (hl : us0.length = la + 1) (hn : 0 < n) (hnl : n ≤ la) (hk : k ≤ 31) (hV : 4294967296 ^ (n - 1) * 2147483648 ≤ V) :
    Div us0 us0 (List.replicate (la + 1 - n) 0) V (la + 1 - n) (la + 1) n := by
  refine ⟨hl, by simp, rfl, ?_, by rw [List.drop_of_length_le (by simp)]; simp [val]⟩
  have h1 := val_take_drop us0 (la + 1 - n) (by omega)
  have h2 : 4294967296 ^ (la + 1 - n) * val (us0.drop (la + 1 - n)) < 4294967296 ^ la * 2 ^ k := by
    have : A * 2 ^ k < 4294967296 ^ la * 2 ^ k := Nat.mul_lt_mul_of_pos_right hA (Nat.two_pow_pos k)
    omega
  have h3 : 4294967296 ^ la = 4294967296 ^ (la + 1 - n) * 4294967296 ^ (n - 1) := by rw [← Nat.pow_add]; congr 1; omega
  rw [h3, Nat.mul_assoc] at h2
  have h4 := Nat.lt_of_mul_lt_mul_left h2
  have h5 : 2 ^ k ≤ 2 ^ 31 := Nat.pow_le_pow_right (by omega) hk
  have h6 : 4294967296 ^ (n - 1) * 2 ^ k ≤ 4294967296 ^ (n - 1) * 2147483648 := Nat.mul_le_mul_left _ h5
  omega
/-- At the end. -/
theorem Div.last {us0 us qs : List Nat} {b k L n a : Nat} (d : Div us0 us qs (b * 2 ^ k) 0 L n) (hu : val us0 = a * 2 ^ k) (hw : Wf us) (hV : b * 2 ^ k < 4294967296 ^ n) (hn : n ≤ L) :
    val qs = a / b ∧ val (us.take n) / 2 ^ k = a % b := by
  have h1 := d.eq
  have h2 := d.rest
  simp only [List.drop_zero] at h1 h2
  rw [hu] at h1
  have hp := Nat.two_pow_pos k
  have hz : val (us.take n) = val us := by
    have h3 := val_take_drop us n (by rw [d.lu]; exact hn)
    rcases Nat.eq_zero_or_pos (val (us.drop n)) with h | h
    · rw [h, Nat.mul_zero, Nat.add_zero] at h3; exact h3.symm
    · have h4 : 4294967296 ^ n * 1 ≤ 4294967296 ^ n * val (us.drop n) := Nat.mul_le_mul_left _ h
      omega
  obtain ⟨e1, e2⟩ := short_end (dig (a * 2 ^ k)) qs (val us) (b * 2 ^ k) h2 (by rw [val_dig]; exact h1)
  rw [val_dig] at e1 e2
  refine ⟨by rw [e1, Nat.mul_div_mul_right _ _ hp], ?_⟩
  rw [hz, e2, Nat.mul_mod_mul_right, Nat.mul_div_cancel _ hp]
end Go.Proofs.Ytaenedjanckaiaa
