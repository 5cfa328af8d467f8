/- Numbers as lists of words of 32 bits, the lowest first: plain arithmetic, no program. -/
import Derived.Below
namespace Go.Proofs.Ytaenedjanckaiaa
set_option linter.unnecessarySimpa false
set_option linter.unusedVariables false
set_option linter.unusedSimpArgs false

/-- The number of a list of words. -/
def val : List Nat → Nat
  | [] => 0
  | x :: r => x + 4294967296 * val r
/-- Each word is one. -/
def Wf (xs : List Nat) : Prop := ∀ x ∈ xs, x < 4294967296
/-- Without the noughts at the end. -/
def trim : List Nat → List Nat
  | [] => []
  | x :: r => match trim r with
    | [] => if x = 0 then [] else [x]
    | s => x :: s
/-- The words of a number, none at the end being 0. -/
def dig (n : Nat) : List Nat := if n = 0 then [] else (n % 4294967296) :: dig (n / 4294967296)
  termination_by n
  decreasing_by omega

theorem dig_zero : dig 0 = [] := by rw [dig]; simp
theorem dig_pos (n : Nat) (h : 0 < n) : dig n = (n % 4294967296) :: dig (n / 4294967296) := by rw [dig, if_neg (by omega)]

theorem Wf.nil : Wf [] := by intro x h; cases h
theorem Wf.cons {x : Nat} {r : List Nat} (h : x < 4294967296) (hr : Wf r) : Wf (x :: r) := by
  intro y hy
  rcases List.mem_cons.1 hy with rfl | hy
  · exact h
  · exact hr y hy
theorem Wf.head {x : Nat} {r : List Nat} (h : Wf (x :: r)) : x < 4294967296 := h x (List.mem_cons_self ..)
theorem Wf.tail {x : Nat} {r : List Nat} (h : Wf (x :: r)) : Wf r := fun y hy => h y (List.mem_cons_of_mem _ hy)
theorem Wf.append {xs ys : List Nat} (h : Wf xs) (k : Wf ys) : Wf (xs ++ ys) := by
  intro y hy
  rcases List.mem_append.1 hy with hy | hy
  · exact h y hy
  · exact k y hy
theorem Wf.left {xs ys : List Nat} (h : Wf (xs ++ ys)) : Wf xs := fun y hy => h y (List.mem_append_left _ hy)
theorem Wf.right {xs ys : List Nat} (h : Wf (xs ++ ys)) : Wf ys := fun y hy => h y (List.mem_append_right _ hy)
theorem Wf.snoc {xs : List Nat} {x : Nat} (h : Wf xs) (k : x < 4294967296) : Wf (xs ++ [x]) := h.append (Wf.cons k Wf.nil)
theorem Wf.take {xs : List Nat} (h : Wf xs) (k : Nat) : Wf (xs.take k) := fun y hy => h y (List.mem_of_mem_take hy)
theorem Wf.drop {xs : List Nat} (h : Wf xs) (k : Nat) : Wf (xs.drop k) := fun y hy => h y (List.mem_of_mem_drop hy)
theorem Wf.zeros (k : Nat) : Wf (List.replicate k 0) := by
  intro y hy
  have := (List.mem_replicate.1 hy).2
  omega
theorem getD_in {xs : List Nat} {i : Nat} (h : i < xs.length) : xs.getD i 0 = xs[i] := by simp [List.getD, h]
theorem getD_out {xs : List Nat} {i : Nat} (h : xs.length ≤ i) : xs.getD i 0 = 0 := by simp [List.getD, h]
theorem Wf.getD {xs : List Nat} (h : Wf xs) (i : Nat) : xs.getD i 0 < 4294967296 := by
  rcases Nat.lt_or_ge i xs.length with hi | hi
  · rw [getD_in hi]; exact h _ (List.getElem_mem hi)
  · rw [getD_out hi]; omega
theorem Wf.get? {xs : List Nat} (h : Wf xs) (i : Nat) : xs[i]?.getD 0 < 4294967296 := by
  have := h.getD i
  simpa using this

theorem val_append (xs ys : List Nat) : val (xs ++ ys) = val xs + 4294967296 ^ xs.length * val ys := by
  induction xs with
  | nil => simp [val]
  | cons x r ih =>
    simp only [List.cons_append, val, ih, List.length_cons, Nat.pow_succ]
    generalize 4294967296 ^ r.length = p
    rw [Nat.mul_add, Nat.add_assoc, Nat.mul_comm p 4294967296, Nat.mul_assoc]
theorem val_snoc (xs : List Nat) (x : Nat) : val (xs ++ [x]) = val xs + 4294967296 ^ xs.length * x := by
  rw [val_append]; simp [val]
theorem val_lt (xs : List Nat) (h : Wf xs) : val xs < 4294967296 ^ xs.length := by
  induction xs with
  | nil => simp [val]
  | cons x r ih =>
    have h1 := ih h.tail
    have h2 := h.head
    simp only [val, List.length_cons, Nat.pow_succ]
    generalize 4294967296 ^ r.length = p at *
    omega
theorem val_zeros (k : Nat) : val (List.replicate k 0) = 0 := by
  induction k with
  | zero => rfl
  | succ k ih => rw [List.replicate_succ, val, ih]
theorem val_take_succ (xs : List Nat) (k : Nat) (h : k < xs.length) : val (xs.take (k + 1)) = val (xs.take k) + 4294967296 ^ k * xs.getD k 0 := by
  rw [List.take_succ_eq_append_getElem h, val_snoc, List.length_take, Nat.min_eq_left (Nat.le_of_lt h), getD_in h]
theorem val_take_step (xs : List Nat) (k : Nat) : val (xs.take (k + 1)) = val (xs.take k) + 4294967296 ^ k * xs.getD k 0 := by
  rcases Nat.lt_or_ge k xs.length with h | h
  · exact val_take_succ xs k h
  · rw [List.take_of_length_le (by omega), List.take_of_length_le h, getD_out h]; omega
theorem val_take_all (xs : List Nat) (k : Nat) (h : xs.length ≤ k) : val (xs.take k) = val xs := by rw [List.take_of_length_le h]
theorem val_take_drop (xs : List Nat) (k : Nat) (h : k ≤ xs.length) : val xs = val (xs.take k) + 4294967296 ^ k * val (xs.drop k) := by
  have := val_append (xs.take k) (xs.drop k)
  rw [List.take_append_drop, List.length_take, Nat.min_eq_left h] at this
  exact this

theorem trim_snoc_zero (xs : List Nat) : trim (xs ++ [0]) = trim xs := by
  induction xs with
  | nil => rfl
  | cons x r ih => simp only [List.cons_append, trim, ih]
theorem trim_snoc_pos (xs : List Nat) (x : Nat) (h : x ≠ 0) : trim (xs ++ [x]) = xs ++ [x] := by
  induction xs with
  | nil => simp [trim, h]
  | cons y r ih =>
    simp only [List.cons_append, trim, ih]
    split
    · rename_i h2; simp at h2
    · rfl
theorem val_trim (xs : List Nat) : val (trim xs) = val xs := by
  induction xs with
  | nil => rfl
  | cons x r ih =>
    rw [trim]
    split
    · rename_i h
      rw [h] at ih
      simp only [val] at ih ⊢
      split
      · rename_i hx; subst hx; simp only [val]; omega
      · simp only [val]; omega
    · rename_i h
      simp only [val]; rw [ih]
theorem trim_prefix (xs : List Nat) : ∃ k, xs = trim xs ++ List.replicate k 0 := by
  induction xs with
  | nil => exact ⟨0, rfl⟩
  | cons x r ih =>
    obtain ⟨k, hk⟩ := ih
    rw [trim]
    split
    · rename_i h
      rw [h] at hk
      split
      · rename_i hx; subst hx; exact ⟨k + 1, by rw [List.nil_append] at hk ⊢; rw [List.replicate_succ, ← hk]⟩
      · exact ⟨k, by rw [List.nil_append] at hk; rw [List.singleton_append, ← hk]⟩
    · rename_i h
      exact ⟨k, by rw [List.cons_append, ← hk]⟩
theorem trim_length_le (xs : List Nat) : (trim xs).length ≤ xs.length := by
  obtain ⟨k, hk⟩ := trim_prefix xs
  have := congrArg List.length hk
  rw [List.length_append] at this
  omega
theorem trim_eq_take (xs : List Nat) : trim xs = xs.take (trim xs).length := by
  obtain ⟨k, hk⟩ := trim_prefix xs
  have h : xs.take (trim xs).length = (trim xs ++ List.replicate k 0).take (trim xs).length := congrArg _ hk
  rw [h, List.take_left]
theorem Wf.trim {xs : List Nat} (h : Wf xs) : Wf (trim xs) := by rw [trim_eq_take]; exact h.take _
theorem trim_nil_iff (xs : List Nat) : trim xs = [] ↔ val xs = 0 := by
  constructor
  · intro h; rw [← val_trim, h]; rfl
  · intro h
    induction xs with
    | nil => rfl
    | cons x r ih =>
      simp only [val] at h
      rw [trim, ih (by omega)]
      simp; omega

theorem val_dig (n : Nat) : val (dig n) = n := by
  induction n using Nat.strongRecOn with
  | ind n ih =>
    rw [dig]
    split
    · rename_i h; simp [val, h]
    · rename_i h; rw [val, ih (n / 4294967296) (by omega)]; omega
theorem Wf_dig (n : Nat) : Wf (dig n) := by
  induction n using Nat.strongRecOn with
  | ind n ih =>
    rw [dig]
    split
    · exact Wf.nil
    · exact Wf.cons (by omega) (ih _ (by omega))
theorem dig_nil_iff (n : Nat) : dig n = [] ↔ n = 0 := by
  constructor
  · intro h; have := val_dig n; rw [h] at this; exact this.symm
  · rintro rfl; exact dig_zero
theorem dig_val (xs : List Nat) (h : Wf xs) : dig (val xs) = trim xs := by
  induction xs with
  | nil => rw [val, dig_zero]; rfl
  | cons x r ih =>
    have hx := h.head
    have ih := ih h.tail
    rw [val, trim]
    by_cases h0 : val r = 0
    · have hr := (trim_nil_iff r).2 h0
      rw [hr, h0]
      by_cases hx0 : x = 0
      · subst hx0; rw [dig]; simp
      · simp only [if_neg hx0]
        rw [dig_pos _ (by omega)]
        have e1 : (x + 4294967296 * 0) % 4294967296 = x := by omega
        have e2 : (x + 4294967296 * 0) / 4294967296 = 0 := by omega
        rw [e1, e2, dig_zero]
    · have hr : trim r ≠ [] := fun h1 => h0 ((trim_nil_iff r).1 h1)
      rw [dig_pos _ (by omega)]
      have e1 : (x + 4294967296 * val r) % 4294967296 = x := by omega
      have e2 : (x + 4294967296 * val r) / 4294967296 = val r := by omega
      rw [e1, e2, ih]
      split
      · rename_i h2; exact absurd h2 hr
      · rfl
theorem trim_dig (n : Nat) : trim (dig n) = dig n := by
  have := dig_val (dig n) (Wf_dig n)
  rw [val_dig] at this
  exact this.symm
theorem dig_of (xs : List Nat) (n : Nat) (h : Wf xs) (hv : val xs = n) : trim xs = dig n := by rw [← hv]; exact (dig_val xs h).symm
theorem dig_lt (n : Nat) : n < 4294967296 ^ (dig n).length := by
  have := val_lt (dig n) (Wf_dig n)
  rw [val_dig] at this
  exact this
theorem dig_len_le (n k : Nat) (h : n < 4294967296 ^ k) : (dig n).length ≤ k := by
  induction k generalizing n with
  | zero => rw [Nat.pow_zero] at h; have : n = 0 := by omega
            subst this; rw [dig_zero]; exact Nat.le_refl _
  | succ k ih =>
    rw [dig]
    split
    · simp
    · rw [List.length_cons]
      refine Nat.succ_le_succ (ih _ ?_)
      rw [Nat.pow_succ] at h
      generalize 4294967296 ^ k = p at *
      omega
theorem dig_len_ge (n : Nat) (h : 0 < n) : 4294967296 ^ ((dig n).length - 1) ≤ n := by
  induction n using Nat.strongRecOn with
  | ind n ih =>
    rw [dig_pos n h, List.length_cons, Nat.add_sub_cancel]
    by_cases h0 : n / 4294967296 = 0
    · rw [h0, dig_zero]; simp; omega
    · have := ih (n / 4294967296) (by omega) (by omega)
      have hl : 0 < (dig (n / 4294967296)).length := by
        rw [dig_pos _ (by omega)]; simp
      have e : (dig (n / 4294967296)).length = ((dig (n / 4294967296)).length - 1) + 1 := by omega
      rw [e, Nat.pow_succ]
      generalize 4294967296 ^ ((dig (n / 4294967296)).length - 1) = p at *
      omega
theorem dig_len_mono (n m : Nat) (h : n ≤ m) : (dig n).length ≤ (dig m).length := dig_len_le n _ (Nat.lt_of_le_of_lt h (dig_lt m))
theorem dig_len_lt (n m : Nat) (h : (dig n).length < (dig m).length) : n < m := by
  rcases Nat.lt_or_ge n m with h1 | h1
  · exact h1
  · have := dig_len_mono m n h1; omega

/-- The highest word that differs decides. -/
theorem val_cmp_step (xs ys : List Nat) (k : Nat) (hx : Wf xs) (hxl : k < xs.length) (hyl : k < ys.length) (h : xs.getD k 0 < ys.getD k 0) :
    val (xs.take (k + 1)) < val (ys.take (k + 1)) := by
  rw [val_take_succ xs k hxl, val_take_succ ys k hyl]
  have h1 := val_lt (xs.take k) (hx.take k)
  rw [List.length_take, Nat.min_eq_left (Nat.le_of_lt hxl)] at h1
  generalize 4294967296 ^ k = p at *
  generalize xs.getD k 0 = a at *
  generalize ys.getD k 0 = b at *
  have : p * (a + 1) ≤ p * b := Nat.mul_le_mul_left p h
  rw [Nat.mul_add] at this
  omega
/-- -1, 0, 1. -/
def cmpN (n m : Nat) : Int := if n < m then -1 else if m < n then 1 else 0
theorem val_lt_of (xs ys : List Nat) (k : Nat) (hx : Wf xs) (hl : xs.length = ys.length) (hk : k < xs.length) (h : xs.getD k 0 < ys.getD k 0) (hs : ∀ j, k < j → j < xs.length → xs.getD j 0 = ys.getD j 0) :
    val xs < val ys := by
  have h1 := val_cmp_step xs ys k hx hk (by omega) h
  rw [val_take_drop xs (k + 1) (by omega), val_take_drop ys (k + 1) (by omega)]
  have : xs.drop (k + 1) = ys.drop (k + 1) := by
    apply List.ext_getElem (by simp; omega)
    intro i a b
    simp only [List.length_drop] at a b
    rw [List.getElem_drop, List.getElem_drop, ← getD_in (by omega), ← getD_in (by omega)]
    exact hs _ (by omega) (by omega)
  rw [this]
  omega
theorem val_eq_of_same (xs ys : List Nat) (hl : xs.length = ys.length) (h : ∀ i, i < xs.length → xs.getD i 0 = ys.getD i 0) : xs = ys := by
  apply List.ext_getElem hl
  intro i h1 h2
  have := h i h1
  rw [getD_in h1, getD_in h2] at this
  exact this

/-- One round of a sum. -/
theorem more_val (xs ys zs : List Nat) (k d s : Nat) (hz : zs.length = k) (hv : val zs + 4294967296 ^ k * d = val (xs.take k) + val (ys.take k)) (hs : s = d + xs.getD k 0 + ys.getD k 0) :
    val (zs ++ [s % 4294967296]) + 4294967296 ^ (k + 1) * (s / 4294967296) = val (xs.take (k + 1)) + val (ys.take (k + 1)) := by
  rw [val_snoc, hz, val_take_step xs k, val_take_step ys k]
  have h1 : 4294967296 ^ k * (s % 4294967296) + 4294967296 ^ (k + 1) * (s / 4294967296) = 4294967296 ^ k * s := by
    rw [Nat.pow_succ, Nat.mul_assoc, ← Nat.mul_add, Nat.mod_add_div]
  rw [hs, Nat.mul_add, Nat.mul_add] at h1
  rw [← hs] at h1
  omega

/-- One round of a difference. -/
theorem less_val (xs ys zs : List Nat) (k d z d' : Nat) (hz : zs.length = k) (hv : val zs + val (ys.take k) = val (xs.take k) + 4294967296 ^ k * d) (hs : z + (d + ys.getD k 0) = xs.getD k 0 + 4294967296 * d') :
    val (zs ++ [z]) + val (ys.take (k + 1)) = val (xs.take (k + 1)) + 4294967296 ^ (k + 1) * d' := by
  rw [val_snoc, hz, val_take_step xs k, val_take_step ys k]
  have h1 : 4294967296 ^ k * (z + (d + ys.getD k 0)) = 4294967296 ^ k * (xs.getD k 0 + 4294967296 * d') := by rw [hs]
  rw [Nat.pow_succ, Nat.mul_assoc]
  simp only [Nat.mul_add] at h1
  omega
theorem less_end (xs ys zs : List Nat) (n d : Nat) (hz : Wf zs) (hzl : zs.length = n) (hv : val zs + val ys = val xs + 4294967296 ^ n * d) (hle : val ys ≤ val xs) (hd : d ≤ 1) : val zs = val xs - val ys := by
  have h := val_lt zs hz
  rw [hzl] at h
  rcases Nat.eq_zero_or_pos d with rfl | h1
  · omega
  · obtain rfl : d = 1 := by omega
    omega

theorem val_set (xs : List Nat) (j z : Nat) (h : j < xs.length) : val (xs.set j z) + 4294967296 ^ j * xs.getD j 0 = val xs + 4294967296 ^ j * z := by
  induction xs generalizing j with
  | nil => simp at h
  | cons x r ih =>
    cases j with
    | zero => simp [val, List.set]; omega
    | succ j =>
      have := ih j (by simpa using h)
      simp only [List.set_cons_succ, val, Nat.pow_succ, List.getD_cons_succ]
      rw [Nat.mul_comm (4294967296 ^ j) 4294967296, Nat.mul_assoc, Nat.mul_assoc]
      omega
/-- A round of a product's row. -/
theorem prod_val (os os' ys : List Nat) (i k c x s : Nat) (hj : i + k < os'.length) (hv : val os' + 4294967296 ^ (i + k) * c = val os + 4294967296 ^ i * (x * val (ys.take k))) (hs : s = c + (x * ys.getD k 0 + os'.getD (i + k) 0)) :
    val (os'.set (i + k) (s % 4294967296)) + 4294967296 ^ (i + (k + 1)) * (s / 4294967296) = val os + 4294967296 ^ i * (x * val (ys.take (k + 1))) := by
  have h1 := val_set os' (i + k) (s % 4294967296) hj
  have h2 : 4294967296 ^ (i + k) * (s % 4294967296) + 4294967296 ^ (i + (k + 1)) * (s / 4294967296) = 4294967296 ^ (i + k) * s := by
    rw [← Nat.add_assoc, Nat.pow_succ, Nat.mul_assoc, ← Nat.mul_add, Nat.mod_add_div]
  have h3 : 4294967296 ^ i * (x * val (ys.take (k + 1))) = 4294967296 ^ i * (x * val (ys.take k)) + 4294967296 ^ (i + k) * (x * ys.getD k 0) := by
    rw [val_take_step, Nat.mul_add, Nat.mul_add, Nat.pow_add, Nat.mul_left_comm x, Nat.mul_assoc]
  rw [hs, Nat.mul_add, Nat.mul_add] at h2
  rw [← hs] at h2
  omega
/-- A row's end. -/
theorem prod_end (os os' xs ys : List Nat) (i c : Nat) (hj : i + ys.length < os'.length) (h0 : os'.getD (i + ys.length) 0 = 0) (ho : val os = val (xs.take i) * val ys)
    (hv : val os' + 4294967296 ^ (i + ys.length) * c = val os + 4294967296 ^ i * (xs.getD i 0 * val ys)) : val (os'.set (i + ys.length) c) = val (xs.take (i + 1)) * val ys := by
  have h1 := val_set os' (i + ys.length) c hj
  rw [h0] at h1
  rw [val_take_step, Nat.add_mul, Nat.mul_assoc]
  omega
theorem mul_word (x y : Nat) (hx : x < 4294967296) (hy : y < 4294967296) : x * y ≤ 18446744065119617025 := Nat.mul_le_mul (Nat.le_of_lt_succ hx) (Nat.le_of_lt_succ hy)

theorem or_add (c x s : Nat) (h : c < 2 ^ s) : c ||| (x * 2 ^ s) = c + x * 2 ^ s := by
  have := Nat.shiftLeft_add_eq_or_of_lt h x
  rw [Nat.shiftLeft_eq] at this
  rw [Nat.or_comm, ← this, Nat.add_comm]
theorem mul_two_pow_lt (x s : Nat) (hx : x < 4294967296) (hs : s ≤ 32) : x * 2 ^ s + 2 ^ s ≤ 18446744073709551616 := by
  have h1 : 2 ^ s ≤ 2 ^ 32 := Nat.pow_le_pow_right (by omega) hs
  have h2 : (x + 1) * 2 ^ s ≤ 4294967296 * 2 ^ 32 := Nat.mul_le_mul hx h1
  rw [Nat.add_mul] at h2
  omega
/-- A round of a move up: t is the word with the carry below it. -/
theorem left_carry (x s c : Nat) (hx : x < 4294967296) (hs : s ≤ 32) (hc : c < 2 ^ s) : (c + x * 2 ^ s) / 4294967296 < 2 ^ s := by
  have h : c + x * 2 ^ s < 4294967296 * 2 ^ s := by
    have : (x + 1) * 2 ^ s ≤ 4294967296 * 2 ^ s := Nat.mul_le_mul_right _ hx
    rw [Nat.add_mul] at this
    omega
  exact Nat.div_lt_of_lt_mul h
theorem left_val (xs ys : List Nat) (k d s t : Nat) (hy : ys.length = k) (hv : val ys + 4294967296 ^ k * d = val (xs.take k) * 2 ^ s) (ht : t = d + xs.getD k 0 * 2 ^ s) :
    val (ys ++ [t % 4294967296]) + 4294967296 ^ (k + 1) * (t / 4294967296) = val (xs.take (k + 1)) * 2 ^ s := by
  rw [val_snoc, hy, val_take_step, Nat.add_mul]
  have h1 : 4294967296 ^ k * (t % 4294967296) + 4294967296 ^ (k + 1) * (t / 4294967296) = 4294967296 ^ k * t := by
    rw [Nat.pow_succ, Nat.mul_assoc, ← Nat.mul_add, Nat.mod_add_div]
  rw [ht, Nat.mul_add, ← Nat.mul_assoc] at h1
  rw [← ht] at h1
  omega
theorem pow_words (n : Nat) : 4294967296 ^ (n / 32) * 2 ^ (n % 32) = 2 ^ n := by
  have : (4294967296 : Nat) = 2 ^ 32 := by decide
  rw [this, ← Nat.pow_mul, ← Nat.pow_add, Nat.div_add_mod]
theorem left_end (xs ys : List Nat) (n d : Nat) (hv : val ys + 4294967296 ^ ys.length * d = val xs * 2 ^ (n % 32)) :
    val (List.replicate (n / 32) 0 ++ (ys ++ [d])) = val xs * 2 ^ n := by
  rw [val_append, val_zeros, List.length_replicate, val_snoc, hv, Nat.zero_add, Nat.mul_left_comm, pow_words]

/-- Moved down by less than a word. -/
def shrL (s : Nat) (ys : List Nat) : List Nat := (List.range ys.length).map fun i => ((ys.getD i 0 + 4294967296 * ys.getD (i + 1) 0) / 2 ^ s) % 4294967296
theorem shrL_length (s : Nat) (ys : List Nat) : (shrL s ys).length = ys.length := by simp [shrL]
theorem shrL_take (s : Nat) (ys : List Nat) (k : Nat) (h : k < ys.length) :
    (shrL s ys).take (k + 1) = (shrL s ys).take k ++ [((ys.getD k 0 + 4294967296 * ys.getD (k + 1) 0) / 2 ^ s) % 4294967296] := by
  rw [List.take_succ_eq_append_getElem (by rw [shrL_length]; exact h)]
  simp [shrL]
theorem shr_step (y V y1 V1 s : Nat) (hy : y < 4294967296) (hs : s < 32) (hV : V = y1 + 4294967296 * V1) : (y + 4294967296 * V) / 2 ^ s = ((y + 4294967296 * y1) / 2 ^ s) % 4294967296 + 4294967296 * (V / 2 ^ s) := by
  obtain ⟨t, ht⟩ : ∃ t, 4294967296 = 2 ^ s * t := ⟨2 ^ (32 - s), by rw [← Nat.pow_add, show s + (32 - s) = 32 by omega]⟩
  have hp := Nat.two_pow_pos s
  have ht' : t * 2 ^ s = 4294967296 := by rw [Nat.mul_comm]; exact ht.symm
  have e1 : ∀ Z, (y + 4294967296 * Z) / 2 ^ s = y / 2 ^ s + t * Z := by
    intro Z
    rw [ht, Nat.mul_assoc, Nat.add_mul_div_left _ _ hp]
  have hc : y / 2 ^ s < t := by
    rw [Nat.div_lt_iff_lt_mul hp, Nat.mul_comm, ← ht]; exact hy
  rw [e1, e1]
  have hm : y1 % 2 ^ s = V % 2 ^ s := by
    rw [hV, ht, Nat.mul_assoc, Nat.add_mul_mod_self_left]
  have h1 : y / 2 ^ s + t * y1 = (y / 2 ^ s + t * (y1 % 2 ^ s)) + 4294967296 * (y1 / 2 ^ s) := by
    have := Nat.mod_add_div y1 (2 ^ s)
    have h2 : t * y1 = t * (y1 % 2 ^ s + 2 ^ s * (y1 / 2 ^ s)) := by rw [this]
    rw [h2, Nat.mul_add, ← Nat.mul_assoc t, ht']; omega
  have h3 : y / 2 ^ s + t * (y1 % 2 ^ s) < 4294967296 := by
    have h4 : y1 % 2 ^ s + 1 ≤ 2 ^ s := Nat.mod_lt _ hp
    have h5 : t * (y1 % 2 ^ s + 1) ≤ t * 2 ^ s := Nat.mul_le_mul_left _ h4
    rw [Nat.mul_add, Nat.mul_comm t (2 ^ s), ← ht] at h5
    omega
  rw [h1, Nat.add_mul_mod_self_left, Nat.mod_eq_of_lt h3, hm]
  have := Nat.mod_add_div V (2 ^ s)
  have h2 : t * V = t * (V % 2 ^ s + 2 ^ s * (V / 2 ^ s)) := by rw [this]
  rw [h2, Nat.mul_add, ← Nat.mul_assoc t (2 ^ s), ht']; omega
theorem val_shrL (s : Nat) (ys : List Nat) (h : Wf ys) (hs : s < 32) : val (shrL s ys) = val ys / 2 ^ s := by
  induction ys with
  | nil => simp [shrL, val]
  | cons y r ih =>
    have e : shrL s (y :: r) = ((y + 4294967296 * r.getD 0 0) / 2 ^ s % 4294967296) :: shrL s r := by
      simp only [shrL, List.length_cons, List.range_succ_eq_map, List.map_cons, List.map_map]
      rfl
    rw [e, val, val, ih h.tail]
    cases r with
    | nil => simp [val, shrL]; have := h.head; exact Nat.lt_of_le_of_lt (Nat.div_le_self _ _) this
    | cons y1 r1 =>
      exact (shr_step y (val (y1 :: r1)) y1 (val r1) s h.head hs rfl).symm
theorem Wf_shrL (s : Nat) (ys : List Nat) : Wf (shrL s ys) := by
  intro x hx
  simp only [shrL, List.mem_map] at hx
  obtain ⟨i, _, rfl⟩ := hx
  exact Nat.mod_lt _ (by omega)
theorem shr_words (xs : List Nat) (n : Nat) (h : Wf xs) (hn : n / 32 < xs.length) : val (xs.drop (n / 32)) / 2 ^ (n % 32) = val xs / 2 ^ n := by
  rw [val_take_drop xs (n / 32) (by omega), ← pow_words n, ← Nat.div_div_eq_div_mul]
  have h1 := val_lt (xs.take (n / 32)) (h.take _)
  rw [List.length_take, Nat.min_eq_left (by omega)] at h1
  rw [Nat.add_mul_div_left _ _ (Nat.pow_pos (by omega)), Nat.div_eq_of_lt h1, Nat.zero_add]
theorem shr_none (xs : List Nat) (n : Nat) (h : Wf xs) (hn : xs.length ≤ n / 32) : val xs / 2 ^ n = 0 := by
  apply Nat.div_eq_of_lt
  have h1 := val_lt xs h
  have h2 : 4294967296 ^ xs.length ≤ 4294967296 ^ (n / 32) := Nat.pow_le_pow_right (by omega) hn
  have h3 := pow_words n
  have h4 : 4294967296 ^ (n / 32) * 1 ≤ 4294967296 ^ (n / 32) * 2 ^ (n % 32) := Nat.mul_le_mul_left _ (Nat.two_pow_pos _)
  omega

theorem set_zero_append (k q : Nat) (qs : List Nat) : (List.replicate (k + 1) 0 ++ qs).set k q = List.replicate k 0 ++ (q :: qs) := by
  have : List.replicate (k + 1) 0 ++ qs = List.replicate k 0 ++ (0 :: qs) := by
    rw [List.replicate_succ', List.append_assoc]; rfl
  rw [this, List.set_append_right _ _ (by simp)]
  simp
/-- A round of a division by a word. -/
theorem short_val (xs qs : List Nat) (k r d t : Nat) (hk : k < xs.length) (hv : val qs * d + r = val (xs.drop (k + 1))) (ht : t = r * 4294967296 + xs.getD k 0) :
    val (t / d :: qs) * d + t % d = val (xs.drop k) := by
  have e : xs.drop k = xs.getD k 0 :: xs.drop (k + 1) := by rw [List.drop_eq_getElem_cons hk, getD_in hk]
  rw [e, val, val, ← hv, Nat.add_mul, Nat.mul_assoc]
  have := Nat.div_add_mod t d
  rw [Nat.mul_comm] at this
  omega
theorem short_word (r d x : Nat) (hr : r < d) (hx : x < 4294967296) : (r * 4294967296 + x) / d < 4294967296 := by
  apply Nat.div_lt_of_lt_mul
  have : (r + 1) * 4294967296 ≤ d * 4294967296 := Nat.mul_le_mul_right _ hr
  omega
theorem short_end (xs qs : List Nat) (r d : Nat) (hr : r < d) (hv : val qs * d + r = val xs) : val qs = val xs / d ∧ r = val xs % d := by
  have h1 : (val qs * d + r) / d = val qs := by
    rw [Nat.mul_comm, Nat.mul_add_div (by omega), Nat.div_eq_of_lt hr, Nat.add_zero]
  have h2 : (val qs * d + r) % d = r := by
    rw [Nat.mul_comm, Nat.mul_add_mod, Nat.mod_eq_of_lt hr]
  rw [← hv, h1, h2]
  exact ⟨rfl, rfl⟩
theorem or_word (a x : Nat) (hx : x < 4294967296) : a * 4294967296 ||| x = a * 4294967296 + x := by
  have := or_add x a 32 (by omega)
  rw [Nat.or_comm, Nat.add_comm]
  exact this

theorem mid_get (pre ms us post : List Nat) (k : Nat) (hk : ms.length = k) (h : k < us.length) : (pre ++ ((ms ++ us.drop k) ++ post)).getD (pre.length + k) 0 = us.getD k 0 := by
  subst hk
  simp only [List.getD]
  rw [List.getElem?_append_right (by omega), Nat.add_sub_cancel_left, List.getElem?_append_left (by simp; omega), List.getElem?_append_right (Nat.le_refl _), Nat.sub_self, List.getElem?_drop, Nat.add_zero]
theorem mid_set (pre ms us post : List Nat) (k z : Nat) (hk : ms.length = k) (h : k < us.length) : (pre ++ ((ms ++ us.drop k) ++ post)).set (pre.length + k) z = pre ++ (((ms ++ [z]) ++ us.drop (k + 1)) ++ post) := by
  subst hk
  rw [List.set_append_right _ _ (by omega), Nat.add_sub_cancel_left, List.set_append_left _ _ (by simp; omega), List.set_append_right _ _ (Nat.le_refl _), Nat.sub_self]
  have e : us.drop ms.length = us[ms.length] :: us.drop (ms.length + 1) := List.drop_eq_getElem_cons h
  rw [e, List.set_cons_zero]
  simp only [List.append_assoc, List.cons_append, List.nil_append]
theorem mid_len (pre ms us post : List Nat) (k : Nat) (hk : ms.length = k) (h : k ≤ us.length) : (pre ++ ((ms ++ us.drop k) ++ post)).length = pre.length + us.length + post.length := by
  simp; omega
end Go.Proofs.Ytaenedjanckaiaa
