/- How long what is made of numbers is. -/
import Derived.Test.YtaenedjanckaiaaGreatMay
namespace Go.Proofs.YtaenedjanckaiaaGreat
set_option linter.unnecessarySimpa false
set_option linter.unusedVariables false
set_option linter.unusedSimpArgs false
open Go.RowKit

/-- How many bytes. -/
def sz (n : Int) : Nat := (mag n.natAbs).size
theorem sz_le {n : Int} {k : Nat} : sz n ≤ k ↔ n.natAbs < 256 ^ k := mag_size_le
theorem sz_lt (n : Int) : n.natAbs < 256 ^ sz n := sz_le.1 (Nat.le_refl _)
theorem sz_mul {a b : Int} {i j : Nat} (h : sz a ≤ i) (k : sz b ≤ j) : sz (a * b) ≤ i + j := by
  rw [sz_le] at *
  rw [Int.natAbs_mul, Nat.pow_add]
  exact Nat.mul_lt_mul'' h k
theorem sz_add {a b : Int} {i : Nat} (h : sz a ≤ i) (k : sz b ≤ i) : sz (a + b) ≤ i + 1 := by
  rw [sz_le] at *
  rw [Nat.pow_succ]
  have := Int.natAbs_add_le a b
  omega
theorem sz_neg (a : Int) : sz (-a) = sz a := by
  unfold sz; rw [Int.natAbs_neg]
theorem sz_sub {a b : Int} {i : Nat} (h : sz a ≤ i) (k : sz b ≤ i) : sz (a - b) ≤ i + 1 := by
  rw [Int.sub_eq_add_neg]
  exact sz_add h (by rw [sz_neg]; exact k)
theorem sz_nat (d : Nat) : sz (d : Int) = (mag d).size := by unfold sz; rw [Int.natAbs_natCast]
/-- Both parts have at most so many bytes. -/
def Sz (k : Nat) (q : Rat) : Prop := sz q.num ≤ k ∧ sz (q.den : Int) ≤ k
theorem Sz.mono {i k : Nat} {q : Rat} (h : Sz i q) (hk : i ≤ k) : Sz k q := ⟨Nat.le_trans h.1 hk, Nat.le_trans h.2 hk⟩
theorem Sz.fit {k : Nat} {q : Rat} (h : Sz k q) (hk : k ≤ 1024) : Fit q := ⟨Nat.le_trans h.1 hk, by have := h.2; rw [sz_nat] at this; omega⟩
theorem Fit.sz {q : Rat} (h : Fit q) : Sz 1024 q := ⟨h.1, by rw [sz_nat]; exact h.2⟩
theorem sz_divInt {n d : Int} {k : Nat} (hd : d ≠ 0) (h1 : sz n ≤ k) (h2 : sz d ≤ k) : Sz k (Rat.divInt n d) :=
  ⟨mag_mono (num_le n d hd) h1, by rw [sz_nat]; exact mag_mono (den_le n d hd) h2⟩
theorem Sz.mul {i j : Nat} {x y : Rat} (h : Sz i x) (k : Sz j y) : Sz (i + j) (x * y) := by
  rw [← divInt_mul]
  exact sz_divInt (Int.mul_ne_zero (den_ne x) (den_ne y)) (sz_mul h.1 k.1) (sz_mul h.2 k.2)
theorem Sz.div {i j : Nat} {x y : Rat} (h : Sz i x) (k : Sz j y) (h0 : y ≠ 0) : Sz (i + j) (x / y) := by
  rw [← divInt_quo]
  exact sz_divInt (Int.mul_ne_zero (den_ne x) fun e => h0 (Rat.num_eq_zero.1 e)) (sz_mul h.1 k.2) (sz_mul h.2 k.1)
theorem Sz.add {i j : Nat} {x y : Rat} (h : Sz i x) (k : Sz j y) : Sz (i + j + 1) (x + y) := by
  rw [← divInt_Add]
  refine sz_divInt (Int.mul_ne_zero (den_ne x) (den_ne y)) (sz_add (sz_mul h.1 k.2) ?_) (Nat.le_succ_of_le (sz_mul h.2 k.2))
  rw [Nat.add_comm]
  exact sz_mul k.1 h.2
theorem Sz.sub {i j : Nat} {x y : Rat} (h : Sz i x) (k : Sz j y) : Sz (i + j + 1) (x - y) := by
  rw [← divInt_Sub]
  refine sz_divInt (Int.mul_ne_zero (den_ne x) (den_ne y)) (sz_sub (sz_mul h.1 k.2) ?_) (Nat.le_succ_of_le (sz_mul h.2 k.2))
  rw [Nat.add_comm]
  exact sz_mul k.1 h.2
theorem Sz.okR {k : Nat} {q : Rat} (h : Sz k q) (hk : k ≤ 16384) : OkR q := by
  have k1 := wl_size (Nat.le_trans h.1 hk)
  have k2 := wl_size (Nat.le_trans h.2 hk)
  refine ⟨?_, ?_⟩
  · show (dig _).length ≤ _
    omega
  · show (dig ((q.den : Int)).natAbs).length ≤ _
    omega
end Go.Proofs.YtaenedjanckaiaaGreat
