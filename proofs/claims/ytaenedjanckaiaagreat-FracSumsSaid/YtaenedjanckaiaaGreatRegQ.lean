/- The discipline for new fractions. -/
import Derived.Test.YtaenedjanckaiaaGreatRegH
import Derived.Test.YtaenedjanckaiaaGreatRat
namespace Go.Proofs.YtaenedjanckaiaaGreat
set_option linter.unnecessarySimpa false
set_option linter.unusedVariables false
set_option linter.unusedSimpArgs false
open Go.RowKit

theorem GE.rat {base : Nat} {wr : List (Nat × Nat)} {γ : Gh} {w w' : World} (h : GE base wr γ w w') {g : Nat} {q : Rat} (hx : RatAt w g 0 q) : (∃ p ∈ wr, ∃ v, γ p.1 = some v ∧ blk v = some g ∧ γ p.2 = none ∧ base ≤ g) ∨ RatAt w' g 0 q := by
  obtain ⟨h1, h2, d, h3, h4⟩ := hx
  rcases h.int _ _ _ h2 with k | k
  · exact .inl k
  · rcases h.int _ _ _ h3 with k2 | k2
    · exact .inl k2
    · exact .inr ⟨h.slot _ _ _ h1, k, d, k2, h4⟩
/-- A new place for a fraction. -/
def VP (base : Nat) (w : World) (v : Value) : Prop := ∃ g, v = .pointer (some ⟨g, 0, none⟩) ∧ base ≤ g ∧ Slot w g 0 4
/-- A fraction of an owner's block. -/
def VQ (q : Rat) (w : World) (v : Value) : Prop := ∃ g, v = .pointer (some ⟨g, 0, none⟩) ∧ RatAt w g 0 q
/-- The fraction that has been written into the block of another one's. -/
def VR (base a : Nat) (q : Rat) (γ : Gh) (w : World) (v : Value) : Prop := ∃ g, v = .pointer (some ⟨g, 0, none⟩) ∧ γ a = some (.pointer (some ⟨g, 0, none⟩)) ∧ base ≤ g ∧ RatAt w g 0 q
theorem VP.stable {base : Nat} {wr : List (Nat × Nat)} {γ : Gh} {w w' : World} {v : Value} (h : VP base w v) (hE : GE base wr γ w w') : VP base w' v := by
  obtain ⟨g, h1, h2, h3⟩ := h
  exact ⟨g, h1, h2, hE.slot _ _ _ h3⟩
theorem VQ.stable {base : Nat} {w0 : World} {ow : List Nat} {wr : List (Nat × Nat)} {γ : Gh} {w w' : World} {v : Value} {q : Rat} (i : Nat) (h : VQ q w v) (hC : GC base w0 ow γ w) (hE : GE base wr γ w w') (hi : γ i = some v) (hb : (ow.contains i && wr.all fun p => ow.contains p.1 && p.1 != i) = true) : VQ q w' v := by
  obtain ⟨g, rfl, h2⟩ := h
  rw [Bool.and_eq_true] at hb
  rcases hE.rat h2 with ⟨p, hp, u, k1, k2, _, k4⟩ | k
  · have h3 := List.all_eq_true.1 hb.2 p hp
    rw [Bool.and_eq_true, bne_iff_ne] at h3
    have := hC.apart i (List.contains_iff_mem.1 hb.1) p.1 (List.contains_iff_mem.1 h3.1) (Ne.symm h3.2) _ _ g hi k1 rfl k2
    omega
  · exact ⟨g, rfl, k⟩
theorem VR.stable {base a : Nat} {w0 : World} {ow : List Nat} {wr : List (Nat × Nat)} {γ : Gh} {w w' : World} {v x : Value} {q : Rat} (i k : Nat) (h : VR base a q γ w v) (hC : GC base w0 ow γ w) (hE : GE base wr γ w w') (hk : γ k = none) (hi : γ i = some v) (hb : (ow.contains a && wr.all fun p => ow.contains p.1 && (p.1 != a || p.2 == i)) = true) : VR base a q (γ.upd k x) w' v := by
  obtain ⟨g, rfl, h1, h2, h3⟩ := h
  rw [Bool.and_eq_true] at hb
  rcases hE.rat h3 with ⟨p, hp, u, k1, k2, k3, k4⟩ | k5
  · have h4 := List.all_eq_true.1 hb.2 p hp
    rw [Bool.and_eq_true, Bool.or_eq_true, bne_iff_ne, beq_iff_eq] at h4
    by_cases e : p.1 = a
    · have : p.2 = i := by rcases h4.2 with h5 | h5; exact absurd e h5; exact h5
      rw [this, hi] at k3
      cases k3
    · have := hC.apart a (List.contains_iff_mem.1 hb.1) p.1 (List.contains_iff_mem.1 h4.1) (Ne.symm e) _ _ g h1 k1 rfl k2
      omega
  · exact ⟨g, rfl, upd_some h1 hk, h2, k5⟩
end Go.Proofs.YtaenedjanckaiaaGreat
