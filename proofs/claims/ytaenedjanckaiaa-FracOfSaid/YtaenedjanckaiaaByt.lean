/- Bytes of numbers, plain: the lowest first as a list, the highest first as a text. -/
import Derived.Test.YtaenedjanckaiaaNum
namespace Go.Proofs.Ytaenedjanckaiaa
set_option linter.unnecessarySimpa false
set_option linter.unusedVariables false
set_option linter.unusedSimpArgs false

/-- The number of bytes, the lowest first. -/
def bval : List Nat → Nat
  | [] => 0
  | x :: r => x + 256 * bval r
def B8 (xs : List Nat) : Prop := ∀ x ∈ xs, x < 256
/-- The bytes of a number, the lowest first. -/
def led (n : Nat) : List Nat := if n = 0 then [] else (n % 256) :: led (n / 256)
  termination_by n
  decreasing_by omega
theorem led_zero : led 0 = [] := by rw [led]; simp
theorem led_pos (n : Nat) (h : 0 < n) : led n = (n % 256) :: led (n / 256) := by rw [led, if_neg (by omega)]
theorem B8.nil : B8 [] := by intro x h; cases h
theorem B8.tail {x : Nat} {r : List Nat} (h : B8 (x :: r)) : B8 r := fun y hy => h y (List.mem_cons_of_mem _ hy)
theorem B8.head {x : Nat} {r : List Nat} (h : B8 (x :: r)) : x < 256 := h x (List.mem_cons_self ..)
theorem B8.take {xs : List Nat} (h : B8 xs) (k : Nat) : B8 (xs.take k) := fun y hy => h y (List.mem_of_mem_take hy)
theorem B8.getD {xs : List Nat} (h : B8 xs) (i : Nat) : xs.getD i 0 < 256 := by
  rcases Nat.lt_or_ge i xs.length with k | k
  · rw [getD_in k]; exact h _ (List.getElem_mem k)
  · rw [getD_out k]; omega
theorem B8_led (n : Nat) : B8 (led n) := by
  induction n using Nat.strongRecOn with
  | ind n ih =>
    rcases Nat.eq_zero_or_pos n with h | h
    · subst h; rw [led_zero]; exact B8.nil
    · rw [led_pos n h]
      intro x hx
      rcases List.mem_cons.1 hx with rfl | hx
      · exact Nat.mod_lt _ (by decide)
      · exact ih (n / 256) (by omega) x hx
theorem bval_led (n : Nat) : bval (led n) = n := by
  induction n using Nat.strongRecOn with
  | ind n ih =>
    rcases Nat.eq_zero_or_pos n with h | h
    · subst h; rw [led_zero]; rfl
    · rw [led_pos n h, bval, ih (n / 256) (by omega)]; omega
theorem bval_append (xs ys : List Nat) : bval (xs ++ ys) = bval xs + 256 ^ xs.length * bval ys := by
  induction xs with
  | nil => simp [bval]
  | cons x r ih =>
    simp only [List.cons_append, bval, ih, List.length_cons, Nat.pow_succ]
    rw [Nat.mul_add, Nat.add_assoc, Nat.mul_comm (256 ^ r.length) 256, Nat.mul_assoc]
theorem bval_lt (xs : List Nat) (h : B8 xs) : bval xs < 256 ^ xs.length := by
  induction xs with
  | nil => simp [bval]
  | cons x r ih =>
    have := ih h.tail
    have hx := h.head
    rw [bval, List.length_cons, Nat.pow_succ]
    omega
theorem bval_take_step (xs : List Nat) (k : Nat) : bval (xs.take (k + 1)) = bval (xs.take k) + 256 ^ k * xs.getD k 0 := by
  rcases Nat.lt_or_ge k xs.length with h | h
  · rw [List.take_succ_eq_append_getElem h, bval_append, getD_in h]
    simp [bval, List.length_take, Nat.min_eq_left (Nat.le_of_lt h)]
  · rw [List.take_of_length_le h, List.take_of_length_le (by omega), getD_out h]; simp
theorem led_lt (n : Nat) : n < 256 ^ (led n).length := by
  have := bval_lt (led n) (B8_led n)
  rwa [bval_led] at this
theorem led_len_le (n k : Nat) (h : n < 256 ^ k) : (led n).length ≤ k := by
  induction k generalizing n with
  | zero => rw [show n = 0 by simpa using h, led_zero]; simp
  | succ k ih =>
    rcases Nat.eq_zero_or_pos n with h0 | h0
    · subst h0; rw [led_zero]; simp
    · rw [led_pos n h0, List.length_cons]
      have := ih (n / 256) (by rw [Nat.pow_succ] at h; omega)
      omega
theorem led_len_pos (n : Nat) (h : 0 < n) : 256 ^ ((led n).length - 1) ≤ n := by
  rcases Nat.lt_or_ge n (256 ^ ((led n).length - 1)) with k | k
  · have := led_len_le n _ k
    have : 0 < (led n).length := by rw [led_pos n h]; simp
    omega
  · exact k
theorem led_nil_iff (n : Nat) : led n = [] ↔ n = 0 := by
  constructor
  · intro h
    have := bval_led n
    rw [h] at this
    exact this.symm
  · rintro rfl; exact led_zero
theorem bval_getD (xs : List Nat) (h : B8 xs) (k : Nat) : xs.getD k 0 = bval xs / 256 ^ k % 256 := by
  induction xs generalizing k with
  | nil => simp [bval]
  | cons x r ih =>
    have hx := h.head
    cases k with
    | zero => simp [bval]; omega
    | succ k =>
      rw [show (x :: r).getD (k + 1) 0 = r.getD k 0 by simp [List.getD], ih h.tail k, bval, Nat.pow_succ, Nat.mul_comm (256 ^ k) 256, ← Nat.div_div_eq_div_mul, show (x + 256 * bval r) / 256 = bval r by omega]
theorem val_getD (xs : List Nat) (h : Wf xs) (k : Nat) : xs.getD k 0 = val xs / 4294967296 ^ k % 4294967296 := by
  induction xs generalizing k with
  | nil => simp [val]
  | cons x r ih =>
    have hx := h.head
    cases k with
    | zero => simp [val]; omega
    | succ k =>
      rw [show (x :: r).getD (k + 1) 0 = r.getD k 0 by simp [List.getD], ih h.tail k, val, Nat.pow_succ, Nat.mul_comm (4294967296 ^ k) 4294967296, ← Nat.div_div_eq_div_mul, show (x + 4294967296 * val r) / 4294967296 = val r by omega]
theorem dig_getD (n k : Nat) : (dig n).getD k 0 = n / 4294967296 ^ k % 4294967296 := by rw [val_getD _ (Wf_dig n), val_dig]
theorem led_getD (n k : Nat) : (led n).getD k 0 = n / 256 ^ k % 256 := by rw [bval_getD _ (B8_led n), bval_led]
theorem p256 (k : Nat) : 256 ^ k = 2 ^ (8 * k) := by rw [Nat.pow_mul]
theorem p32 (k : Nat) : 4294967296 ^ k = 2 ^ (32 * k) := by rw [Nat.pow_mul]
/-- A byte of a number lies in one of its words. -/
theorem byte_word (n i : Nat) : (n / 4294967296 ^ (i / 4) % 4294967296) / 2 ^ (i % 4 * 8) % 256 = n / 256 ^ i % 256 := by
  have hi : 32 * (i / 4) + i % 4 * 8 = 8 * i := by omega
  have h4 : i % 4 < 4 := Nat.mod_lt _ (by decide)
  rw [p256, ← hi, Nat.pow_add, ← Nat.div_div_eq_div_mul, ← p32]
  generalize n / 4294967296 ^ (i / 4) = m
  generalize i % 4 = r at h4
  rcases (by omega : r = 0 ∨ r = 1 ∨ r = 2 ∨ r = 3) with rfl | rfl | rfl | rfl <;> omega
theorem led_of (xs : List Nat) (h : B8 xs) (ht : xs = [] ∨ xs.getD (xs.length - 1) 0 ≠ 0) : led (bval xs) = xs := by
  induction xs with
  | nil => exact led_zero
  | cons x r ih =>
    have hx := h.head
    rcases ht with ht | ht
    · cases ht
    · have hr : r = [] ∨ r.getD (r.length - 1) 0 ≠ 0 := by
        cases r with
        | nil => exact .inl rfl
        | cons y t => exact .inr (by simpa [List.getD] using ht)
      have ihr := ih h.tail hr
      have hp : 0 < bval (x :: r) := by
        cases r with
        | nil => simp [List.getD] at ht; simp [bval]; omega
        | cons y t =>
          have : bval (y :: t) ≠ 0 := fun e => by rw [e, led_zero] at ihr; cases ihr
          rw [bval]; omega
      rw [led_pos _ hp, bval, show (x + 256 * bval r) % 256 = x by omega, show (x + 256 * bval r) / 256 = bval r by omega, ihr]
theorem led_top (n : Nat) : led n = [] ∨ (led n).getD ((led n).length - 1) 0 ≠ 0 := by
  rcases Nat.eq_zero_or_pos n with h | h
  · exact .inl ((led_nil_iff n).2 h)
  · refine .inr ?_
    have h1 := led_len_pos n h
    have h2 := led_lt n
    have h3 : 0 < (led n).length := by rw [led_pos n h]; simp
    rw [led_getD]
    generalize (led n).length = k at *
    obtain ⟨j, rfl⟩ : ∃ j, k = j + 1 := ⟨k - 1, by omega⟩
    rw [Nat.add_sub_cancel] at *
    rw [Nat.pow_succ] at h2
    have h5 : 0 < 256 ^ j := Nat.pow_pos (by decide)
    have h6 : n / 256 ^ j < 256 := Nat.div_lt_of_lt_mul h2
    have h7 : 0 < n / 256 ^ j := Nat.div_pos h1 h5
    omega
/-- How many bytes: of how many bits. -/
theorem led_len_bits (n L : Nat) (h1 : n < 2 ^ L) (h2 : 0 < L → 2 ^ (L - 1) ≤ n) : (led n).length = (L + 7) / 8 := by
  refine Nat.le_antisymm (led_len_le _ _ ?_) ?_
  · rw [p256]
    exact Nat.lt_of_lt_of_le h1 (Nat.pow_le_pow_right (by decide) (by omega))
  · rcases Nat.eq_zero_or_pos L with h0 | h0
    · omega
    · have h3 := h2 h0
      have h4 := led_lt n
      rw [p256] at h4
      have h5 : 2 ^ (L - 1) < 2 ^ (8 * (led n).length) := by omega
      have := (Nat.pow_lt_pow_iff_right (by decide : 1 < 2)).1 h5
      omega

/-- A text of bytes. -/
def strN (xs : List Nat) : ByteArray := ⟨(xs.map UInt8.ofNat).toArray⟩
/-- The bytes of a text, the last first. -/
def leS (s : ByteArray) : List Nat := (s.data.toList.map UInt8.toNat).reverse
/-- The magnitude of a number: its bytes, the highest first. -/
def mag (n : Nat) : ByteArray := strN (led n).reverse
/-- The number of a magnitude. -/
def num (s : ByteArray) : Nat := bval (leS s)
theorem leS_len (s : ByteArray) : (leS s).length = s.size := by
  unfold leS
  rw [List.length_reverse, List.length_map]
  rfl
theorem B8_leS (s : ByteArray) : B8 (leS s) := by
  intro x hx
  simp only [leS, List.mem_reverse, List.mem_map] at hx
  obtain ⟨a, _, rfl⟩ := hx
  exact a.toNat_lt
theorem strN_size (xs : List Nat) : (strN xs).size = xs.length := by simp [strN, ByteArray.size]
theorem leS_strN (xs : List Nat) (h : B8 xs) : leS (strN xs) = xs.reverse := by
  unfold leS strN
  congr 1
  simp only [List.map_map]
  conv => rhs; rw [← List.map_id xs]
  refine List.map_congr_left fun x hx => ?_
  have := h x hx
  simp [Function.comp, UInt8.toNat_ofNat']
  omega
theorem strN_leS (s : ByteArray) : strN (leS s).reverse = s := by
  unfold leS strN
  rw [List.reverse_reverse, List.map_map, show (UInt8.ofNat ∘ UInt8.toNat) = id from funext fun a => by simp, List.map_id]
theorem B8.reverse {xs : List Nat} (h : B8 xs) : B8 xs.reverse := fun x hx => h x (List.mem_reverse.1 hx)
theorem leS_mag (n : Nat) : leS (mag n) = led n := by rw [mag, leS_strN _ (B8_led n).reverse, List.reverse_reverse]
theorem num_mag (n : Nat) : num (mag n) = n := by rw [num, leS_mag, bval_led]
theorem mag_inj {n m : Nat} (h : mag n = mag m) : n = m := by rw [← num_mag n, h, num_mag]
theorem mag_size (n : Nat) : (mag n).size = (led n).length := by rw [mag, strN_size, List.length_reverse]
theorem mag_size_le {n k : Nat} : (mag n).size ≤ k ↔ n < 256 ^ k := by
  rw [mag_size]
  constructor
  · intro h
    exact Nat.lt_of_lt_of_le (led_lt n) (Nat.pow_le_pow_right (by decide) h)
  · exact led_len_le n k
theorem num_lt (s : ByteArray) : num s < 256 ^ s.size := by
  have := bval_lt _ (B8_leS s)
  rwa [leS_len] at this
theorem mag_zero : mag 0 = ByteArray.empty := by rw [mag, led_zero]; rfl
/-- In its one form: no nought at the head. -/
def Plain1 (s : ByteArray) : Prop := s.size = 0 ∨ (leS s).getD (s.size - 1) 0 ≠ 0
theorem mag_lean (n : Nat) : Plain1 (mag n) := by
  unfold Plain1
  rw [leS_mag, mag_size]
  rcases led_top n with h | h
  · exact .inl (by rw [h]; rfl)
  · exact .inr h
theorem mag_num {s : ByteArray} (h : Plain1 s) : mag (num s) = s := by
  have e : led (num s) = leS s := led_of _ (B8_leS s) (by
    rcases h with h | h
    · exact .inl (List.eq_nil_of_length_eq_zero (by rw [leS_len, h]))
    · exact .inr (by rw [leS_len]; exact h))
  rw [mag, e, strN_leS]
theorem leS_getD (s : ByteArray) (i : Nat) (h : i < s.size) : (leS s).getD i 0 = (s.data[s.size - 1 - i]'(by have : s.size = s.data.size := rfl; omega)).toNat := by
  have hl : i < (leS s).length := by rw [leS_len]; exact h
  rw [getD_in hl]
  have e : (leS s)[i] = ((s.data.toList.map UInt8.toNat).reverse)[i]'(by rw [List.length_reverse, List.length_map]; exact h) := rfl
  rw [e, List.getElem_reverse, List.getElem_map]
  congr 2
  rw [List.length_map]
  rfl
end Go.Proofs.Ytaenedjanckaiaa
