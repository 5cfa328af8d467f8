/- Decimal digits, plain. -/
import Derived.Test.YtaenedjanckaiaaByt
namespace Go.Proofs.Ytaenedjanckaiaa
set_option linter.unnecessarySimpa false
set_option linter.unusedVariables false
set_option linter.unusedSimpArgs false

/-- The digits of a number as bytes, the lowest first. -/
def dd (n : Nat) : List Nat := if n = 0 then [] else (48 + n % 10) :: dd (n / 10)
  termination_by n
  decreasing_by omega
theorem dd_zero : dd 0 = [] := by rw [dd]; simp
theorem dd_pos (n : Nat) (h : 0 < n) : dd n = (48 + n % 10) :: dd (n / 10) := by rw [dd, if_neg (by omega)]
theorem dd_nil_iff (n : Nat) : dd n = [] ↔ n = 0 := by
  constructor
  · intro h
    rcases Nat.eq_zero_or_pos n with k | k
    · exact k
    · rw [dd_pos n k] at h; cases h
  · rintro rfl; exact dd_zero
theorem dd_digit (n : Nat) : ∀ x ∈ dd n, 48 ≤ x ∧ x < 58 := by
  induction n using Nat.strongRecOn with
  | ind n ih =>
    rcases Nat.eq_zero_or_pos n with h | h
    · subst h; rw [dd_zero]; intro x hx; cases hx
    · rw [dd_pos n h]
      intro x hx
      rcases List.mem_cons.1 hx with rfl | hx
      · omega
      · exact ih (n / 10) (by omega) x hx
theorem B8_dd (n : Nat) : B8 (dd n) := fun x hx => Nat.lt_trans (dd_digit n x hx).2 (by decide)
theorem dd_len (n k : Nat) (h : n < 10 ^ k) : (dd n).length ≤ k := by
  induction k generalizing n with
  | zero => rw [show n = 0 by simpa using h, dd_zero]; simp
  | succ k ih =>
    rcases Nat.eq_zero_or_pos n with h0 | h0
    · subst h0; rw [dd_zero]; simp
    · rw [dd_pos n h0, List.length_cons]
      have := ih (n / 10) (by rw [Nat.pow_succ] at h; omega)
      omega
/-- A digit more. -/
theorem dd_step {N r q k R : Nat} {ds : List Nat} (h : dd N = ds ++ dd R) (hR : R = r + 10 ^ (9 - k) * q) (hk : k < 9) (hp : 0 < r ∨ 0 < q) :
    dd N = (ds ++ [48 + r % 10]) ++ dd (R / 10) ∧ R / 10 = r / 10 + 10 ^ (9 - (k + 1)) * q := by
  have e : 10 ^ (9 - k) = 10 * 10 ^ (9 - (k + 1)) := by
    rw [show 9 - k = (9 - (k + 1)) + 1 by omega, Nat.pow_succ, Nat.mul_comm]
  rw [e, Nat.mul_assoc] at hR
  have hpos : 0 < 10 ^ (9 - (k + 1)) := Nat.pow_pos (by decide)
  generalize hT : 10 ^ (9 - (k + 1)) * q = T at *
  have hRp : 0 < R := by
    rcases hp with h0 | h0
    · omega
    · have : 0 < T := by rw [← hT]; exact Nat.mul_pos hpos h0
      omega
  refine ⟨?_, by omega⟩
  rw [h, dd_pos R hRp, show 48 + R % 10 = 48 + r % 10 by omega]
  simp
/-- The text of a number. -/
def txt (n : Int) : List Nat := if n = 0 then [48] else (dd n.natAbs ++ if n < 0 then [45] else []).reverse
theorem B8_txt (n : Int) : B8 (txt n) := by
  unfold txt
  split
  · intro x hx; simp at hx; omega
  · refine B8.reverse fun x hx => ?_
    rcases List.mem_append.1 hx with h | h
    · exact B8_dd _ x h
    · split at h
      · simp at h; omega
      · cases h
def textN (n : Int) : ByteArray := strN (txt n)
theorem textN_size (n : Int) : (textN n).size = (txt n).length := strN_size _

/-- Turned round from both ends, as far as i. -/
def turned (xs : List Nat) (i : Nat) : List Nat := (List.range xs.length).map fun j => if j < i ∨ xs.length - 1 - i < j then xs.getD (xs.length - 1 - j) 0 else xs.getD j 0
theorem turned_len (xs : List Nat) (i : Nat) : (turned xs i).length = xs.length := by simp [turned]
theorem turned_zero (xs : List Nat) : turned xs 0 = xs := by
  refine List.ext_getElem (turned_len xs 0) fun j h1 h2 => ?_
  simp only [turned, List.getElem_map, List.getElem_range]
  rw [if_neg (by omega), getD_in h2]
theorem turned_done (xs : List Nat) (i : Nat) (h : xs.length ≤ 2 * i + 1) : turned xs i = xs.reverse := by
  refine List.ext_getElem (by rw [turned_len, List.length_reverse]) fun j h1 h2 => ?_
  rw [turned_len] at h1
  simp only [turned, List.getElem_map, List.getElem_range, List.getElem_reverse]
  split
  · rw [getD_in (by omega)]
  · rename_i hn
    have e : j = xs.length - 1 - j := by omega
    rw [getD_in h1]
    congr 1
theorem turned_getD (xs : List Nat) (i j : Nat) (h : i ≤ j) (h2 : j + i < xs.length) : (turned xs i).getD j 0 = xs.getD j 0 := by
  rw [getD_in (by rw [turned_len]; omega)]
  simp only [turned, List.getElem_map, List.getElem_range]
  rw [if_neg (by omega)]
theorem turned_step (xs : List Nat) (i k : Nat) (hk : i + k + 1 = xs.length) (h : i < k) : ((turned xs i).set i (xs.getD k 0)).set k (xs.getD i 0) = turned xs (i + 1) := by
  refine List.ext_getElem (by simp [turned_len]) fun j h1 h2 => ?_
  rw [turned_len] at h2
  rw [List.getElem_set, List.getElem_set]
  simp only [turned, List.getElem_map, List.getElem_range]
  by_cases h3 : k = j
  · subst h3
    rw [if_pos rfl, if_pos (by omega)]
    congr 1
    omega
  · rw [if_neg h3]
    by_cases h4 : i = j
    · subst h4
      rw [if_pos rfl, if_pos (by omega)]
      congr 1
      omega
    · rw [if_neg h4]
      by_cases h5 : j < i ∨ xs.length - 1 - i < j
      · rw [if_pos h5, if_pos (by omega)]
      · rw [if_neg h5, if_neg (by omega)]
end Go.Proofs.Ytaenedjanckaiaa
